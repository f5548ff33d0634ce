import Derived.Test.YtlplogplicgfiaaZ5KA
namespace Go.Proofs.Ytlplogplicgfiaa
open Go Go.RowKit
def pcsC (h : Hd) : Nat → List Value → List Value
  | _, [] => []
  | k, u :: us => (pcC h k u).toList ++ pcsC h (k + 1) us
theorem pcsC_len (h : Hd) : ∀ (k : Nat) (us : List Value), (pcsC h k us).length = us.length * 6
  | _, [] => rfl
  | k, u :: us => by simp only [pcsC, List.length_append, pcsC_len h (k + 1) us, List.length_cons]; simp; omega
theorem pcs_take (h : Hd) : ∀ {k : Nat} {us : List Value} {i : Nat}, i < us.length → ((pcsC h k us).drop (i * 6)).take 6 = (pcC h (k + i) (us.getD i undef)).toList
  | k, u :: us, 0, _ => by
    show (((pcC h k u).toList ++ pcsC h (k + 1) us).drop 0).take 6 = (pcC h k u).toList
    simp
  | k, u :: us, i + 1, hi => by
    have ih := pcs_take h (k := k + 1) (us := us) (i := i) (by simpa using hi)
    rw [show (i + 1) * 6 = (pcC h k u).toList.length + i * 6 by simp; omega]
    simp only [pcsC]
    rw [← List.drop_drop, List.drop_left, ih, show k + 1 + i = k + (i + 1) by omega]
    rfl
  | _, [], i, hi => by simp at hi
theorem pcs_take0 {h : Hd} {us : List Value} {i : Nat} (hi : i < us.length) : ((pcsC h 0 us).drop (i * 6)).take 6 = (pcC h i (us.getD i undef)).toList := by have := pcs_take h (k := 0) hi; rwa [Nat.zero_add] at this
theorem pcs_cell {h : Hd} {us : List Value} {i : Nat} (hi : i < us.length) (k : Nat) (hk : k < 6) : (pcsC h 0 us)[i * 6 + k]? = (pcC h i (us.getD i undef)).toList[k]? := by
  rw [← pcs_take0 hi, List.getElem?_take, if_pos hk, List.getElem?_drop]
theorem pcsC_app (h : Hd) : ∀ (k : Nat) (us : List Value) (u : Value), pcsC h k us ++ (pcC h (k + us.length) u).toList = pcsC h k (us ++ [u])
  | k, [], u => by simp [pcsC]
  | k, v :: us, u => by
    have ih := pcsC_app h (k + 1) us u
    simp only [pcsC, List.cons_append, List.append_assoc, List.length_cons]
    rw [← ih, show k + 1 + us.length = k + (us.length + 1) by omega]
theorem pcs_one {h : Hd} : ∀ {k : Nat} {us : List Value}, (∀ u ∈ us, u.oneCell' = true) → ∀ x ∈ pcsC h k us, x.oneCell' = true
  | _, [], _ => by simp [pcsC]
  | k, u :: us, hu => fun x hx => by
    simp only [pcsC, List.mem_append] at hx
    rcases hx with hx | hx
    · simp at hx
      rcases hx with rfl | rfl | rfl | rfl | rfl | rfl
      all_goals first | rfl | exact hu _ List.mem_cons_self
    · exact pcs_one (fun v hv => hu v (List.mem_cons_of_mem _ hv)) x hx
theorem Sl.new {w : World} {ty : TypeId} {k n b : Nat} {v : Value} {cs : List Value} (h : Sl w ty k v n cs) (hb : w.heap.size ≤ b) : vblk v ≠ some b := fun e => by have := h.lt b e; omega
theorem Sl.upN {w w' : World} {ty : TypeId} {k n b : Nat} {v : Value} {cs : List Value} (h : Sl w ty k v n cs) (u : Upd (fun c => c = b) w w') (hb : vblk v ≠ some b) : Sl w' ty k v n cs := h.up u (fun x e e1 => hb (by have e2 : x = b := e1; exact e2 ▸ e))
structure Rows8 (w : World) (us : List Value) (l : List (List Nat)) : Prop where
  len : us.length = l.length
  rows : ∀ i, i < l.length → SU8s w (us.getD i undef) (l.getD i [])
section
variable {w w' : World} {us : List Value} {l : List (List Nat)}
def UB (us : List Value) (x : Nat) : Prop := ∃ u ∈ us, vblk u = some x
theorem Rows8.get (h : Rows8 w us l) {u : Value} (hu : u ∈ us) : ∃ dt, SU8s w u dt := by
  obtain ⟨i, hi, rfl⟩ := List.mem_iff_getElem.1 hu
  have h1 := h.rows i (by have := h.len; omega)
  rw [List.getD_eq_getElem?_getD, List.getElem?_eq_getElem hi] at h1
  exact ⟨_, h1⟩
theorem Rows8.up {X : Nat → Prop} (h : Rows8 w us l) (u : Upd X w w') (hX : ∀ x, X x → ¬ UB us x) : Rows8 w' us l := ⟨h.len, fun i hi => (h.rows i hi).up u (fun b hb e => hX b e ⟨us.getD i undef, by
    have := h.len
    rw [List.getD_eq_getElem?_getD, List.getElem?_eq_getElem (by omega)]; exact List.getElem_mem _, hb⟩)⟩
theorem Rows8.ext (h : Rows8 w us l) (u : Ext w w') : Rows8 w' us l := h.up u (fun _ e => e.elim)
theorem Rows8.ub (h : Rows8 w us l) {x : Nat} (hx : UB us x) : ∃ cs, Blk w x 5 cs := by
  obtain ⟨u, hu, e⟩ := hx
  obtain ⟨dt, hd⟩ := h.get hu
  exact hd.blk e
theorem Rows8.notT (h : Rows8 w us l) {b : Nat} {ty : TypeId} {cs : Array Value} (hB : Blk w b ty cs) (hne : 5 ≠ ty) : ¬ UB us b := fun e => by
  obtain ⟨c, q⟩ := h.ub e; exact q.ne hB hne rfl
theorem Rows8.new (h : Rows8 w us l) {b : Nat} (hb : w.heap.size ≤ b) : ¬ UB us b := fun e => by obtain ⟨c, q⟩ := h.ub e; have := q.lt; omega
theorem Rows8.upN {b : Nat} (h : Rows8 w us l) (u : Upd (one b) w w') (hb : ¬ UB us b) : Rows8 w' us l := h.up u (fun x e => by have e1 : x = b := e; rw [e1]; exact hb)
theorem Rows8.upT {b : Nat} {ty : TypeId} {cs : Array Value} (h : Rows8 w us l) (u : Upd (one b) w w') (hB : Blk w b ty cs) (hne : 5 ≠ ty) : Rows8 w' us l := h.upN u (h.notT hB hne)
theorem Rows8.upS {x : Value} {ty' k' m : Nat} {ds : List Value} (h : Rows8 w us l) (u : Upd (fun b => vblk x = some b) w w') (hx : Sl w ty' k' x m ds) (hne : 5 ≠ ty') : Rows8 w' us l := h.up u (fun b e => by obtain ⟨c, q⟩ := hx.blk e; exact h.notT q hne)
theorem Rows8.one (h : Rows8 w us l) : ∀ u ∈ us, u.oneCell' = true := fun u hu => by obtain ⟨dt, hd⟩ := h.get hu; exact hd.one
theorem Rows8.nil : Rows8 w [] [] := ⟨rfl, fun i hi => by simp at hi⟩
theorem Rows8.snoc (h : Rows8 w us l) {u : Value} {dt : List Nat} (hu : SU8s w u dt) : Rows8 w (us ++ [u]) (l ++ [dt]) := by
  have hl := h.len
  refine ⟨by simp [hl], fun i hi => ?_⟩
  simp only [List.length_append, List.length_cons, List.length_nil] at hi
  simp only [List.getD_eq_getElem?_getD]
  rcases Nat.lt_or_ge i l.length with h1 | h1
  · rw [List.getElem?_append_left (by omega), List.getElem?_append_left h1]
    have := h.rows i h1
    simpa only [List.getD_eq_getElem?_getD] using this
  · obtain rfl : i = l.length := by omega
    rw [List.getElem?_append_right (by omega), List.getElem?_append_right (by omega), hl, Nat.sub_self]
    exact hu
end
structure PS (w : World) (v : Value) (us : List Value) (h : Hd) (l : List (List Nat)) : Prop where
  sl : Sl w 120 6 v l.length (pcsC h 0 us)
  rows : Rows8 w us l
section
variable {w w' : World} {v : Value} {us : List Value} {h : Hd} {l : List (List Nat)}
def PB (v : Value) (us : List Value) (x : Nat) : Prop := vblk v = some x ∨ UB us x
theorem PS.up {X : Nat → Prop} (p : PS w v us h l) (u : Upd X w w') (hX : ∀ x, X x → ¬ PB v us x) : PS w' v us h l := ⟨p.sl.up u (fun b hb e => hX b e (.inl hb)), p.rows.up u (fun x e q => hX x e (.inr q))⟩
theorem PS.ext (p : PS w v us h l) (u : Ext w w') : PS w' v us h l := p.up u (fun _ e => e.elim)
theorem PS.pb (p : PS w v us h l) {x : Nat} (hx : PB v us x) : ∃ ty cs, Blk w x ty cs ∧ (ty = 120 ∨ ty = 5) := by
  rcases hx with hx | hx
  · obtain ⟨c, q⟩ := p.sl.blk hx; exact ⟨_, _, q, .inl rfl⟩
  · obtain ⟨c, q⟩ := p.rows.ub hx; exact ⟨_, _, q, .inr rfl⟩
theorem PS.new (p : PS w v us h l) {b : Nat} (hb : w.heap.size ≤ b) : ¬ PB v us b := fun e => by obtain ⟨ty, c, q, _⟩ := p.pb e; have := q.lt; omega
theorem PS.notT (p : PS w v us h l) {b : Nat} {ty : TypeId} {cs : Array Value} (hB : Blk w b ty cs) (hne : 120 ≠ ty ∧ 5 ≠ ty) : ¬ PB v us b := fun e => by
  obtain ⟨ty', c, q, h1⟩ := p.pb e
  have h2 := (q.inj hB).2
  rcases h1 with rfl | rfl
  · exact hne.1 h2
  · exact hne.2 h2
theorem PS.upN {b : Nat} (p : PS w v us h l) (u : Upd (one b) w w') (hb : ¬ PB v us b) : PS w' v us h l := p.up u (fun x e => by have e1 : x = b := e; rw [e1]; exact hb)
theorem PS.upT {b : Nat} {ty : TypeId} {cs : Array Value} (p : PS w v us h l) (u : Upd (one b) w w') (hB : Blk w b ty cs) (hne : 120 ≠ ty ∧ 5 ≠ ty) : PS w' v us h l := p.upN u (p.notT hB hne)
theorem PS.upS {x : Value} {ty' k' m : Nat} {ds : List Value} (p : PS w v us h l) (u : Upd (fun b => vblk x = some b) w w') (hx : Sl w ty' k' x m ds) (hne : 120 ≠ ty' ∧ 5 ≠ ty') : PS w' v us h l := p.up u (fun b e => by obtain ⟨c, q⟩ := hx.blk e; exact p.notT q hne)
theorem PS.nil : PS w (.slice none 0 0) [] h [] := ⟨Sl.nil _ _ _, Rows8.nil⟩
end
def foundR (d : Dk) (a : Nat) (h : Hd) : Option (List (List Nat)) := if d.n < h.total then none else foundL d a h h.total
theorem findL_foundR (d : Dk) (a : Nat) (h : Hd) : findL d a h = (foundR d a h).map List.flatten := by unfold findL foundR; split <;> rfl
def RFRes (w' : World) (r : Value) (h : Hd) : Option (List (List Nat)) → Prop
  | none => r = .slice none 0 0
  | some l => ∃ us, PS w' r us h l
theorem partR1 {d : Dk} {pl k : Nat} {h : Hd} {x : List Nat} (h1 : hitL (tk d ((pl : Nat) : Int)) h k = some x) : partL d pl h k = some x := by unfold partL; rw [h1]
theorem partR2 {d : Dk} {pl k : Nat} {h : Hd} {x : Option (List Nat)} (h1 : hitL (tk d ((pl : Nat) : Int)) h k = none) (h2 : hitL (tk d ((pl + d.n : Nat) : Int)) h k = x) : partL d pl h k = x := by unfold partL; rw [h1]; exact h2
set_option maxHeartbeats 1600000 in
theorem rfound_ (w : World) {rb rd pv : Value} {r : Dk} {a pk : Nat} {p : Hd} (hR : RD w rb rd r) (hbl : r.bl.length ≤ 2000) (hn2 : r.bl.length / 2 = r.n) (hn : 0 < r.n) (ha : a ≤ 1000000) (h84 : p.total ≤ 84) (_hpv : pv.oneCell' = true) : Calls Try.prog 71 #[.agg #[rb, rd, .int .i64 r.pw, .bool r.tr], .int .i64 ((a : Nat) : Int), .agg (pcC p pk pv)] w (Ret fun x w' => Ext w w' ∧ RFRes w' x p (foundR r a p)) := by
  have hnl := r.n_le
  refine calls_E (args := [.agg #[rb, rd, .int .i64 (r.pw), .bool (r.tr)], .int .i64 ((a : Nat) : Int), .agg #[.int .i64 ((pk : Nat) : Int), .int .i64 ((p.total : Nat) : Int), .int .i64 ((p.number : Nat) : Int), .int .i64 ((p.life : Nat) : Int), .int .i64 ((p.first : Nat) : Int), pv]]) 81 Try.func71 rfl rfl (by simp) ?_
  have hE : Ext w w := Upd.refl w
  refine E.seq ?_
  refine E.regionP rfl ?_
  refine R.box rfl nofun ?_
  intro b3 w1 hb3 hx1 hB3
  replace hb3 := Nat.le_trans hE.size hb3
  replace hR := hR.ext hx1
  replace hE := hE.ext hx1
  replace hB3 : Blk _ b3 31 #[rb, rd, .int .i64 (r.pw), .bool (r.tr)] := hB3
  refine R.box rfl nofun ?_
  intro b5 w2 hb5 hx2 hB5
  replace hb5 := Nat.le_trans hE.size hb5
  replace hR := hR.ext hx2
  replace hB3 := hB3.ext hx2
  replace hE := hE.ext hx2
  replace hB5 : Blk _ b5 120 #[.int .i64 ((pk : Nat) : Int), .int .i64 ((p.total : Nat) : Int), .int .i64 ((p.number : Nat) : Int), .int .i64 ((p.life : Nat) : Int), .int .i64 ((p.first : Nat) : Int), pv] := hB5
  refine R.assign ?_
  refine R.nil ?_
  refine E.seq ?_
  refine E.regionP rfl ?_
  refine R.fld fa31_0 rfl ?_
  refine R.loadB t29 hB3 rfl rfl rfl trivial ?_
  refine R.len Try.underlying29 hR.bls.row rfl ?_
  refine R.quoN (m := r.bl.length) (n := 2) rfl rfl (by omega) (by omega) ?_
  rw [hn2]
  refine R.assign ?_
  refine R.nil ?_
  refine E.seq ?_
  refine E.seq ?_
  refine E.regionP rfl ?_
  refine R.fld fa120_1 rfl ?_
  refine R.loadB t3 hB5 rfl rfl rfl trivial ?_
  refine R.move ?_
  refine R.gtr (b := decide ((((r.n : Nat) : Int)) < (((p.total : Nat) : Int)))) rfl rfl rfl ?_
  refine R.nil ?_
  refine E.cond (b := decide ((((r.n : Nat) : Int)) < (((p.total : Nat) : Int)))) rfl (fun hc22 => ?_) (fun hc22 => ?_)
  · replace hc22 := dT hc22
    refine E.seq ?_
    refine E.forget [] trivial (fun e => ?_)
    refine E.regionP rfl ?_
    refine R.assign ?_
    refine R.nil ?_
    refine E.ret ?_
    refine ret1 (.slice none 0 0) rfl rfl ⟨_, rfl, ?_⟩
    refine ⟨hE, ?_⟩
    have h9 : foundR r a p = none := by unfold foundR; rw [if_pos (by omega)]
    rw [h9]; rfl
  · replace hc22 := dF hc22
    refine E.skip ?_
    refine E.seq ?_
    refine E.regionP rfl ?_
    refine R.assign ?_
    refine R.nil ?_
    refine E.seq ?_
    refine E.seq ?_
    refine E.regionP rfl ?_
    refine R.assign ?_
    refine R.nil ?_
    refine E.block ?_
    refine E.loop (fun n e wr => ∃ (k : Nat) (v : Value) (us : List Value) (l : List (List Nat)), n = p.total - k ∧ k ≤ p.total ∧ foundL r a p k = some l ∧ l.length = k ∧ Fresh w v ∧ vblk v ≠ some b5 ∧ RD wr rb rd r ∧ Sl wr 120 6 v l.length (pcsC p 0 us) ∧ Rows8 wr us l ∧ Blk wr b3 31 #[rb, rd, .int .i64 (r.pw), .bool (r.tr)] ∧ Blk wr b5 120 #[.int .i64 ((pk : Nat) : Int), .int .i64 ((p.total : Nat) : Int), .int .i64 ((p.number : Nat) : Int), .int .i64 ((p.life : Nat) : Int), .int .i64 ((p.first : Nat) : Int), pv] ∧ Ext w wr ∧ Has e [(1, .int .i64 ((a : Nat) : Int)), (3, .pointer (some ⟨b3, 0, none⟩)), (5, .pointer (some ⟨b5, 0, none⟩)), (7, .int .i64 ((r.n : Nat) : Int)), (8, v), (9, .int .i64 ((k : Nat) : Int))]) (p.total) ?_ ?_
    · exact ⟨0, .slice none 0 0, [], [], rfl, by omega, rfl, rfl, Fresh.nil _, (by simp [vblk]), hR, Sl.nil _ _ _, Rows8.nil, hB3, hB5, hE, rfl, rfl, rfl, rfl, rfl, rfl, trivial⟩
    · rintro n e wr ⟨k, v, us, l, rfl, hk, hf0, hlk, hfv, hv5, hR, hV, hU, hB3, hB5, hE, hH⟩
      obtain ⟨e, rfl⟩ := hH.ex
      clear hH
      refine E.seq ?_
      refine E.seq ?_
      refine E.regionP rfl ?_
      refine R.move ?_
      refine R.fld fa120_1 rfl ?_
      refine R.loadB t3 hB5 rfl rfl rfl trivial ?_
      refine R.lss (b := decide ((((k : Nat) : Int)) < (((p.total : Nat) : Int)))) rfl rfl rfl ?_
      refine R.nil ?_
      refine E.cond (b := decide ((((k : Nat) : Int)) < (((p.total : Nat) : Int)))) rfl (fun hc26 => ?_) (fun hc26 => ?_)
      · replace hc26 := dT hc26
        have hml := Nat.mod_lt (a + k) hn
        refine E.skip ?_
        refine E.seq ?_
        refine E.block ?_
        refine E.seq ?_
        refine E.regionP rfl ?_
        refine R.move ?_
        refine R.move ?_
        refine R.addN (m := a) (n := k) rfl rfl (by omega) ?_
        refine R.move ?_
        refine R.remN (m := (a + k)) (n := r.n) rfl rfl (by omega) ?_
        refine R.assign ?_
        refine R.nil ?_
        refine E.seq ?_
        refine E.regionP rfl ?_
        refine R.loadA t31 hB3 rfl rfl rfl trivial ?_
        refine R.move ?_
        refine R.callE2 ent70 (rtake_ _ hR (by omega)) rfl rfl nofun ?_
        rintro v37 w3 hx3 hT37
        have hE0 := hE
        replace hR := hR.ext hx3
        replace hV := hV.ext hx3
        replace hU := hU.ext hx3
        replace hB3 := hB3.ext hx3
        replace hB5 := hB5.ext hx3
        replace hE := hE.ext hx3
        have hk37 := takeCases (blkO (r.read (((a + k) % r.n : Nat) : Int)))
        rcases hk37 with hk37 | ⟨g37, j37, dt37, hk37⟩
        · replace hk37 : tk r (((a + k) % r.n : Nat) : Int) = none := hk37
          rw [hk37] at hT37
          replace hT37 : _ = Value.tuple _ := hT37
          subst hT37
          refine R.move ?_
          refine R.extract rfl rfl ?_
          refine R.extract rfl rfl ?_
          refine R.alloc t120 nofun ?_
          intro b11 w4 hb11 hx4 hB11
          have ne5_11 : b5 ≠ b11 := by have := hB5.lt; omega
          have hn_hV_11 := hV.new hb11
          replace hb11 := Nat.le_trans hE.size hb11
          replace hR := hR.ext hx4
          replace hV := hV.ext hx4
          replace hU := hU.ext hx4
          replace hB3 := hB3.ext hx4
          replace hB5 := hB5.ext hx4
          replace hE := hE.ext hx4
          replace hB11 : Blk _ b11 120 #[.int .i64 ((0 : Nat) : Int), .int .i64 ((0 : Nat) : Int), .int .i64 ((0 : Nat) : Int), .int .i64 ((0 : Nat) : Int), .int .i64 ((0 : Nat) : Int), .slice none 0 0] := hB11
          refine R.storeA t120 hB11 rfl rfl rfl rfl (ones6 rfl rfl rfl rfl rfl rfl) nofun ?_
          intro w5 hU5 hs5 hN5
          replace hR := hR.upT hU5 hB11 (by decide)
          replace hV := hV.upN hU5 hn_hV_11
          replace hU := hU.upT hU5 hB11 (by decide)
          replace hB3 := hB3.upT hU5 hB11 (by decide)
          replace hB5 := hB5.up hU5 (fun h => ne5_11 h)
          replace hE := hE.own hU5 hb11
          replace hB11 : Blk _ b11 120 #[.int .i64 ((0 : Nat) : Int), .int .i64 ((0 : Nat) : Int), .int .i64 ((0 : Nat) : Int), .int .i64 ((0 : Nat) : Int), .int .i64 ((0 : Nat) : Int), .slice none 0 0] := hN5
          clear hN5
          refine R.assign ?_
          refine R.nil ?_
          refine E.seq ?_
          refine E.forget [(1, .int .i64 ((a : Nat) : Int)), (3, .pointer (some ⟨b3, 0, none⟩)), (5, .pointer (some ⟨b5, 0, none⟩)), (7, .int .i64 ((r.n : Nat) : Int)), (8, v), (9, .int .i64 ((k : Nat) : Int)), (10, .int .i64 (((a + k) % r.n : Nat) : Int)), (11, .pointer (some ⟨b11, 0, none⟩)), (12, .bool (false))] ⟨rfl, rfl, rfl, rfl, rfl, rfl, rfl, rfl, rfl, trivial⟩ (fun e => ?_)
          refine E.regionP rfl ?_
          refine R.loadA t31 hB3 rfl rfl rfl trivial ?_
          refine R.move ?_
          refine R.move ?_
          refine R.addV (m := ((r.n : Nat) : Int)) (n := (((a + k) % r.n : Nat) : Int)) (v := ((((a + k) % r.n) + r.n : Nat) : Int)) rfl rfl (by omega) (by omega) (by omega) ?_
          refine R.callE2 ent70 (rtake_ _ hR (by omega)) rfl rfl nofun ?_
          rintro v45 w6 hx6 hT45
          have hE0 := hE
          replace hR := hR.ext hx6
          replace hV := hV.ext hx6
          replace hU := hU.ext hx6
          replace hB3 := hB3.ext hx6
          replace hB5 := hB5.ext hx6
          replace hB11 := hB11.ext hx6
          replace hE := hE.ext hx6
          have hk45 := takeCases (blkO (r.read ((((a + k) % r.n) + r.n : Nat) : Int)))
          rcases hk45 with hk45 | ⟨g45, j45, dt45, hk45⟩
          · replace hk45 : tk r ((((a + k) % r.n) + r.n : Nat) : Int) = none := hk45
            rw [hk45] at hT45
            replace hT45 : _ = Value.tuple _ := hT45
            subst hT45
            refine R.move ?_
            refine R.extract rfl rfl ?_
            refine R.extract rfl rfl ?_
            refine R.alloc t120 nofun ?_
            intro b13 w7 hb13 hx7 hB13
            have ne5_13 : b5 ≠ b13 := by have := hB5.lt; omega
            have ne11_13 : b11 ≠ b13 := by have := hB11.lt; omega
            have hn_hV_13 := hV.new hb13
            replace hb13 := Nat.le_trans hE.size hb13
            replace hR := hR.ext hx7
            replace hV := hV.ext hx7
            replace hU := hU.ext hx7
            replace hB3 := hB3.ext hx7
            replace hB5 := hB5.ext hx7
            replace hB11 := hB11.ext hx7
            replace hE := hE.ext hx7
            replace hB13 : Blk _ b13 120 #[.int .i64 ((0 : Nat) : Int), .int .i64 ((0 : Nat) : Int), .int .i64 ((0 : Nat) : Int), .int .i64 ((0 : Nat) : Int), .int .i64 ((0 : Nat) : Int), .slice none 0 0] := hB13
            refine R.storeA t120 hB13 rfl rfl rfl rfl (ones6 rfl rfl rfl rfl rfl rfl) nofun ?_
            intro w8 hU8 hs8 hN8
            replace hR := hR.upT hU8 hB13 (by decide)
            replace hV := hV.upN hU8 hn_hV_13
            replace hU := hU.upT hU8 hB13 (by decide)
            replace hB3 := hB3.upT hU8 hB13 (by decide)
            replace hB5 := hB5.up hU8 (fun h => ne5_13 h)
            replace hB11 := hB11.up hU8 (fun h => ne11_13 h)
            replace hE := hE.own hU8 hb13
            replace hB13 : Blk _ b13 120 #[.int .i64 ((0 : Nat) : Int), .int .i64 ((0 : Nat) : Int), .int .i64 ((0 : Nat) : Int), .int .i64 ((0 : Nat) : Int), .int .i64 ((0 : Nat) : Int), .slice none 0 0] := hN8
            clear hN8
            refine R.assign ?_
            refine R.nil ?_
            refine E.seq ?_
            refine E.regionP rfl ?_
            refine R.move ?_
            refine R.move ?_
            refine R.gF rfl rfl rfl ?_
            refine R.gF rfl rfl rfl ?_
            refine R.gF rfl rfl rfl ?_
            refine R.pickF rfl ?_
            refine R.move ?_
            refine R.gF rfl rfl rfl ?_
            refine R.gF rfl rfl rfl ?_
            refine R.gF rfl rfl rfl ?_
            refine R.gF rfl rfl rfl ?_
            refine R.pickF rfl ?_
            refine R.nil ?_
            refine E.condF rfl ?_
            refine E.seq ?_
            refine E.forget [(1, .int .i64 ((a : Nat) : Int)), (3, .pointer (some ⟨b3, 0, none⟩)), (5, .pointer (some ⟨b5, 0, none⟩)), (7, .int .i64 ((r.n : Nat) : Int)), (8, v), (9, .int .i64 ((k : Nat) : Int)), (13, .pointer (some ⟨b13, 0, none⟩)), (14, .bool (false))] ⟨rfl, rfl, rfl, rfl, rfl, rfl, rfl, rfl, trivial⟩ (fun e => ?_)
            refine E.regionP rfl ?_
            refine R.move ?_
            refine R.move ?_
            refine R.gF rfl rfl rfl ?_
            refine R.gF rfl rfl rfl ?_
            refine R.gF rfl rfl rfl ?_
            refine R.pickF rfl ?_
            refine R.move ?_
            refine R.gF rfl rfl rfl ?_
            refine R.gF rfl rfl rfl ?_
            refine R.gF rfl rfl rfl ?_
            refine R.gF rfl rfl rfl ?_
            refine R.pickF rfl ?_
            refine R.nil ?_
            refine E.condF rfl ?_
            refine E.seq ?_
            refine E.forget [] trivial (fun e => ?_)
            refine E.regionP rfl ?_
            refine R.assign ?_
            refine R.nil ?_
            refine E.ret ?_
            refine ret1 (.slice none 0 0) rfl rfl ⟨_, rfl, ?_⟩
            refine ⟨hE, ?_⟩
            have h9 : foundR r a p = none := by unfold foundR; rw [if_neg (by omega)]; exact foundL_none (foundL_stop (partR2 (show hitL (tk r ((((a + k) % r.n) : Nat) : Int)) p k = none by rw [hk37]; first | rfl | exact hitL_miss (fun h => hg54 h.1) | exact hitL_miss (fun h => hc59 (by omega))) (show hitL (tk r ((((a + k) % r.n) + r.n : Nat) : Int)) p k = none by rw [hk45]; first | rfl | exact hitL_miss (fun h => hg70 h.1) | exact hitL_miss (fun h => hc75 (by omega))))) (by omega)
            rw [h9]; rfl
          · replace hk45 : tk r ((((a + k) % r.n) + r.n : Nat) : Int) = some (g45, j45, dt45) := hk45
            rw [hk45] at hT45
            obtain ⟨u45, rfl, hS45, hF45⟩ := hT45
            replace hF45 := hF45.mono hE0.size
            have htt45 := tk_total hk45
            have hto45 := tk_ok hR.ok hk45
            refine R.move ?_
            refine R.extract rfl rfl ?_
            refine R.extract rfl rfl ?_
            refine R.alloc t120 nofun ?_
            intro b13 w9 hb13 hx9 hB13
            have ne5_13 : b5 ≠ b13 := by have := hB5.lt; omega
            have ne11_13 : b11 ≠ b13 := by have := hB11.lt; omega
            have hn_hV_13 := hV.new hb13
            replace hb13 := Nat.le_trans hE.size hb13
            replace hR := hR.ext hx9
            replace hV := hV.ext hx9
            replace hU := hU.ext hx9
            replace hS45 := hS45.ext hx9
            replace hB3 := hB3.ext hx9
            replace hB5 := hB5.ext hx9
            replace hB11 := hB11.ext hx9
            replace hE := hE.ext hx9
            replace hB13 : Blk _ b13 120 #[.int .i64 ((0 : Nat) : Int), .int .i64 ((0 : Nat) : Int), .int .i64 ((0 : Nat) : Int), .int .i64 ((0 : Nat) : Int), .int .i64 ((0 : Nat) : Int), .slice none 0 0] := hB13
            refine R.storeA t120 hB13 rfl rfl rfl rfl (ones6 rfl rfl rfl rfl rfl hS45.one) nofun ?_
            intro w10 hU10 hs10 hN10
            replace hR := hR.upT hU10 hB13 (by decide)
            replace hV := hV.upN hU10 hn_hV_13
            replace hU := hU.upT hU10 hB13 (by decide)
            replace hS45 := hS45.upT hU10 hB13 (by decide)
            replace hB3 := hB3.upT hU10 hB13 (by decide)
            replace hB5 := hB5.up hU10 (fun h => ne5_13 h)
            replace hB11 := hB11.up hU10 (fun h => ne11_13 h)
            replace hE := hE.own hU10 hb13
            replace hB13 : Blk _ b13 120 #[.int .i64 ((j45 : Nat) : Int), .int .i64 ((g45.total : Nat) : Int), .int .i64 ((g45.number : Nat) : Int), .int .i64 ((g45.life : Nat) : Int), .int .i64 ((g45.first : Nat) : Int), u45] := hN10
            clear hN10
            refine R.assign ?_
            refine R.nil ?_
            refine E.seq ?_
            refine E.regionP rfl ?_
            refine R.move ?_
            refine R.move ?_
            refine R.gF rfl rfl rfl ?_
            refine R.gF rfl rfl rfl ?_
            refine R.gF rfl rfl rfl ?_
            refine R.pickF rfl ?_
            refine R.move ?_
            refine R.gF rfl rfl rfl ?_
            refine R.gF rfl rfl rfl ?_
            refine R.gF rfl rfl rfl ?_
            refine R.gF rfl rfl rfl ?_
            refine R.pickF rfl ?_
            refine R.nil ?_
            refine E.condF rfl ?_
            refine E.seq ?_
            refine E.forget [(1, .int .i64 ((a : Nat) : Int)), (3, .pointer (some ⟨b3, 0, none⟩)), (5, .pointer (some ⟨b5, 0, none⟩)), (7, .int .i64 ((r.n : Nat) : Int)), (8, v), (9, .int .i64 ((k : Nat) : Int)), (13, .pointer (some ⟨b13, 0, none⟩)), (14, .bool (true))] ⟨rfl, rfl, rfl, rfl, rfl, rfl, rfl, rfl, trivial⟩ (fun e => ?_)
            refine E.regionP rfl ?_
            refine R.move ?_
            refine R.move ?_
            refine R.gT rfl rfl ?_
            refine R.loadA t120 hB13 rfl rfl rfl trivial ?_
            refine R.gT rfl rfl ?_
            refine R.loadA t120 hB5 rfl rfl rfl trivial ?_
            refine R.gT rfl rfl ?_
            refine R.callE2 ent76 (rlike_ _) rfl rfl nofun ?_
            rintro v68 w11 hx11 rfl
            replace hR := hR.ext hx11
            replace hV := hV.ext hx11
            replace hU := hU.ext hx11
            replace hS45 := hS45.ext hx11
            replace hB3 := hB3.ext hx11
            replace hB5 := hB5.ext hx11
            replace hB11 := hB11.ext hx11
            replace hB13 := hB13.ext hx11
            replace hE := hE.ext hx11
            refine R.pickT rfl ?_
            refine R.move ?_
            have hg70 := Bool.eq_false_or_eq_true (decide (g45 = p))
            rcases hg70 with hg70 | hg70
            · have hg70q := hg70
              replace hg70 := dT hg70
              refine R.gT rfl (congrArg Value.bool hg70q) ?_
              refine R.fld fa120_0 rfl ?_
              refine R.gT rfl (congrArg Value.bool hg70q) ?_
              refine R.loadB t3 hB13 rfl rfl rfl trivial ?_
              refine R.gT rfl (congrArg Value.bool hg70q) ?_
              refine R.move ?_
              refine R.gT rfl (congrArg Value.bool hg70q) ?_
              refine R.eql (b := decide ((((j45 : Nat) : Int)) = (((k : Nat) : Int)))) rfl rfl rfl ?_
              refine R.pickT (congrArg Value.bool hg70q) ?_
              refine R.nil ?_
              refine E.cond (b := decide ((((j45 : Nat) : Int)) = (((k : Nat) : Int)))) rfl (fun hc75 => ?_) (fun hc75 => ?_)
              · replace hc75 := dT hc75
                refine E.forget [(1, .int .i64 ((a : Nat) : Int)), (3, .pointer (some ⟨b3, 0, none⟩)), (5, .pointer (some ⟨b5, 0, none⟩)), (7, .int .i64 ((r.n : Nat) : Int)), (8, v), (9, .int .i64 ((k : Nat) : Int)), (13, .pointer (some ⟨b13, 0, none⟩))] ⟨rfl, rfl, rfl, rfl, rfl, rfl, rfl, trivial⟩ (fun e => ?_)
                refine E.regionP rfl ?_
                refine R.move ?_
                refine R.loadA t120 hB13 rfl rfl rfl trivial ?_
                refine R.buildSlice [.agg #[.int .i64 ((j45 : Nat) : Int), .int .i64 ((g45.total : Nat) : Int), .int .i64 ((g45.number : Nat) : Int), .int .i64 ((g45.life : Nat) : Int), .int .i64 ((g45.first : Nat) : Int), u45]] Try.underlying115 t120 rfl rfl (by simp [Value.cells]) (by simp) nofun ?_
                intro b78 w12 hb78 hx12 hB78 hS78
                have hn_hV_78 := hV.new hb78
                have neS5_78 : b5 ≠ b78 := by have := hB5.lt; omega
                have neS11_78 : b11 ≠ b78 := by have := hB11.lt; omega
                have neS13_78 : b13 ≠ b78 := by have := hB13.lt; omega
                replace hb78 := Nat.le_trans hE.size hb78
                replace hR := hR.ext hx12
                replace hV := hV.ext hx12
                replace hU := hU.ext hx12
                replace hS45 := hS45.ext hx12
                replace hB3 := hB3.ext hx12
                replace hB5 := hB5.ext hx12
                replace hB11 := hB11.ext hx12
                replace hB13 := hB13.ext hx12
                replace hE := hE.ext hx12
                refine R.append Try.underlying115 Try.underlying115 t120 (by decide) rfl hV hS78.row (pcs_one (h := g45) (us := [u45]) (k := j45) (by simpa using hS45.one)) rfl rfl (by simp only [List.length_cons, List.length_nil]; omega) (by simp only [List.length_cons, List.length_nil]; omega) nofun ?_
                intro v79 w13 hU13 hS79 hd13
                have hF79 := Fresh.app hE hfv hd13
                have hnv79_5 := ne_app hd13 (hv5) hB5.lt
                have hnv79_11 := ne_app hd13 (hn_hV_11) hB11.lt
                have hnv79_13 := ne_app hd13 (hn_hV_13) hB13.lt
                replace hR := hR.upS hU13 hV (by decide)
                replace hU := hU.upS hU13 hV (by decide)
                replace hS45 := hS45.upS hU13 hV (by decide)
                replace hB3 := hB3.upS hU13 hV (by decide)
                replace hB5 := hB5.up hU13 (fun e => (hv5) e)
                replace hB11 := hB11.up hU13 (fun e => (hn_hV_11) e)
                replace hB13 := hB13.up hU13 (fun e => (hn_hV_13) e)
                replace hE := hE.app hU13 hfv
                refine R.assign ?_
                refine R.nil ?_
                refine E.regionP rfl ?_
                refine R.move ?_
                refine R.addN (m := k) (n := 1) rfl rfl (by omega) ?_
                refine R.assign ?_
                refine R.nil ?_
                exact ⟨p.total - (k + 1), by omega, k + 1, v79, (us ++ [u45]), (l ++ [dt45]), rfl, by omega, (foundL_step hf0 (partR2 (show hitL (tk r ((((a + k) % r.n) : Nat) : Int)) p k = none by rw [hk37]; first | rfl | exact hitL_miss (fun h => hg54 h.1) | exact hitL_miss (fun h => hc59 (by omega))) (show hitL (tk r ((((a + k) % r.n) + r.n : Nat) : Int)) p k = some dt45 by rw [hk45]; exact hitL_hit hg70 (by omega)))), (by simp [hlk]), hF79, hnv79_5, hR, (by have e9 := hS79; rw [show pcsC p 0 us ++ _ = pcsC p 0 us ++ (pcC p (0 + us.length) u45).toList by rw [Nat.zero_add, hU.len, hlk, show k = j45 by omega, ← hg70]; rfl, pcsC_app] at e9; rw [List.length_append]; exact e9), (hU.snoc hS45), hB3, hB5, hE, rfl, rfl, rfl, rfl, rfl, rfl, trivial⟩
              · replace hc75 := dF hc75
                refine E.seq ?_
                refine E.forget [] trivial (fun e => ?_)
                refine E.regionP rfl ?_
                refine R.assign ?_
                refine R.nil ?_
                refine E.ret ?_
                refine ret1 (.slice none 0 0) rfl rfl ⟨_, rfl, ?_⟩
                refine ⟨hE, ?_⟩
                have h9 : foundR r a p = none := by unfold foundR; rw [if_neg (by omega)]; exact foundL_none (foundL_stop (partR2 (show hitL (tk r ((((a + k) % r.n) : Nat) : Int)) p k = none by rw [hk37]; first | rfl | exact hitL_miss (fun h => hg54 h.1) | exact hitL_miss (fun h => hc59 (by omega))) (show hitL (tk r ((((a + k) % r.n) + r.n : Nat) : Int)) p k = none by rw [hk45]; first | rfl | exact hitL_miss (fun h => hg70 h.1) | exact hitL_miss (fun h => hc75 (by omega))))) (by omega)
                rw [h9]; rfl
            · have hg70q := hg70
              replace hg70 := dF hg70
              refine R.gF rfl (congrArg Value.bool hg70q) rfl ?_
              refine R.gF rfl (congrArg Value.bool hg70q) rfl ?_
              refine R.gF rfl (congrArg Value.bool hg70q) rfl ?_
              refine R.gF rfl (congrArg Value.bool hg70q) rfl ?_
              refine R.pickF (congrArg Value.bool hg70q) ?_
              refine R.nil ?_
              refine E.condF rfl ?_
              refine E.seq ?_
              refine E.forget [] trivial (fun e => ?_)
              refine E.regionP rfl ?_
              refine R.assign ?_
              refine R.nil ?_
              refine E.ret ?_
              refine ret1 (.slice none 0 0) rfl rfl ⟨_, rfl, ?_⟩
              refine ⟨hE, ?_⟩
              have h9 : foundR r a p = none := by unfold foundR; rw [if_neg (by omega)]; exact foundL_none (foundL_stop (partR2 (show hitL (tk r ((((a + k) % r.n) : Nat) : Int)) p k = none by rw [hk37]; first | rfl | exact hitL_miss (fun h => hg54 h.1) | exact hitL_miss (fun h => hc59 (by omega))) (show hitL (tk r ((((a + k) % r.n) + r.n : Nat) : Int)) p k = none by rw [hk45]; first | rfl | exact hitL_miss (fun h => hg70 h.1) | exact hitL_miss (fun h => hc75 (by omega))))) (by omega)
              rw [h9]; rfl
        · replace hk37 : tk r (((a + k) % r.n : Nat) : Int) = some (g37, j37, dt37) := hk37
          rw [hk37] at hT37
          obtain ⟨u37, rfl, hS37, hF37⟩ := hT37
          replace hF37 := hF37.mono hE0.size
          have htt37 := tk_total hk37
          have hto37 := tk_ok hR.ok hk37
          refine R.move ?_
          refine R.extract rfl rfl ?_
          refine R.extract rfl rfl ?_
          refine R.alloc t120 nofun ?_
          intro b11 w14 hb11 hx14 hB11
          have ne5_11 : b5 ≠ b11 := by have := hB5.lt; omega
          have hn_hV_11 := hV.new hb11
          replace hb11 := Nat.le_trans hE.size hb11
          replace hR := hR.ext hx14
          replace hV := hV.ext hx14
          replace hU := hU.ext hx14
          replace hS37 := hS37.ext hx14
          replace hB3 := hB3.ext hx14
          replace hB5 := hB5.ext hx14
          replace hE := hE.ext hx14
          replace hB11 : Blk _ b11 120 #[.int .i64 ((0 : Nat) : Int), .int .i64 ((0 : Nat) : Int), .int .i64 ((0 : Nat) : Int), .int .i64 ((0 : Nat) : Int), .int .i64 ((0 : Nat) : Int), .slice none 0 0] := hB11
          refine R.storeA t120 hB11 rfl rfl rfl rfl (ones6 rfl rfl rfl rfl rfl hS37.one) nofun ?_
          intro w15 hU15 hs15 hN15
          replace hR := hR.upT hU15 hB11 (by decide)
          replace hV := hV.upN hU15 hn_hV_11
          replace hU := hU.upT hU15 hB11 (by decide)
          replace hS37 := hS37.upT hU15 hB11 (by decide)
          replace hB3 := hB3.upT hU15 hB11 (by decide)
          replace hB5 := hB5.up hU15 (fun h => ne5_11 h)
          replace hE := hE.own hU15 hb11
          replace hB11 : Blk _ b11 120 #[.int .i64 ((j37 : Nat) : Int), .int .i64 ((g37.total : Nat) : Int), .int .i64 ((g37.number : Nat) : Int), .int .i64 ((g37.life : Nat) : Int), .int .i64 ((g37.first : Nat) : Int), u37] := hN15
          clear hN15
          refine R.assign ?_
          refine R.nil ?_
          refine E.seq ?_
          refine E.forget [(1, .int .i64 ((a : Nat) : Int)), (3, .pointer (some ⟨b3, 0, none⟩)), (5, .pointer (some ⟨b5, 0, none⟩)), (7, .int .i64 ((r.n : Nat) : Int)), (8, v), (9, .int .i64 ((k : Nat) : Int)), (10, .int .i64 (((a + k) % r.n : Nat) : Int)), (11, .pointer (some ⟨b11, 0, none⟩)), (12, .bool (true))] ⟨rfl, rfl, rfl, rfl, rfl, rfl, rfl, rfl, rfl, trivial⟩ (fun e => ?_)
          refine E.regionP rfl ?_
          refine R.loadA t31 hB3 rfl rfl rfl trivial ?_
          refine R.move ?_
          refine R.move ?_
          refine R.addV (m := ((r.n : Nat) : Int)) (n := (((a + k) % r.n : Nat) : Int)) (v := ((((a + k) % r.n) + r.n : Nat) : Int)) rfl rfl (by omega) (by omega) (by omega) ?_
          refine R.callE2 ent70 (rtake_ _ hR (by omega)) rfl rfl nofun ?_
          rintro v45 w16 hx16 hT45
          have hE0 := hE
          replace hR := hR.ext hx16
          replace hV := hV.ext hx16
          replace hU := hU.ext hx16
          replace hS37 := hS37.ext hx16
          replace hB3 := hB3.ext hx16
          replace hB5 := hB5.ext hx16
          replace hB11 := hB11.ext hx16
          replace hE := hE.ext hx16
          have hk45 := takeCases (blkO (r.read ((((a + k) % r.n) + r.n : Nat) : Int)))
          rcases hk45 with hk45 | ⟨g45, j45, dt45, hk45⟩
          · replace hk45 : tk r ((((a + k) % r.n) + r.n : Nat) : Int) = none := hk45
            rw [hk45] at hT45
            replace hT45 : _ = Value.tuple _ := hT45
            subst hT45
            refine R.move ?_
            refine R.extract rfl rfl ?_
            refine R.extract rfl rfl ?_
            refine R.alloc t120 nofun ?_
            intro b13 w17 hb13 hx17 hB13
            have ne5_13 : b5 ≠ b13 := by have := hB5.lt; omega
            have ne11_13 : b11 ≠ b13 := by have := hB11.lt; omega
            have hn_hV_13 := hV.new hb13
            replace hb13 := Nat.le_trans hE.size hb13
            replace hR := hR.ext hx17
            replace hV := hV.ext hx17
            replace hU := hU.ext hx17
            replace hS37 := hS37.ext hx17
            replace hB3 := hB3.ext hx17
            replace hB5 := hB5.ext hx17
            replace hB11 := hB11.ext hx17
            replace hE := hE.ext hx17
            replace hB13 : Blk _ b13 120 #[.int .i64 ((0 : Nat) : Int), .int .i64 ((0 : Nat) : Int), .int .i64 ((0 : Nat) : Int), .int .i64 ((0 : Nat) : Int), .int .i64 ((0 : Nat) : Int), .slice none 0 0] := hB13
            refine R.storeA t120 hB13 rfl rfl rfl rfl (ones6 rfl rfl rfl rfl rfl rfl) nofun ?_
            intro w18 hU18 hs18 hN18
            replace hR := hR.upT hU18 hB13 (by decide)
            replace hV := hV.upN hU18 hn_hV_13
            replace hU := hU.upT hU18 hB13 (by decide)
            replace hS37 := hS37.upT hU18 hB13 (by decide)
            replace hB3 := hB3.upT hU18 hB13 (by decide)
            replace hB5 := hB5.up hU18 (fun h => ne5_13 h)
            replace hB11 := hB11.up hU18 (fun h => ne11_13 h)
            replace hE := hE.own hU18 hb13
            replace hB13 : Blk _ b13 120 #[.int .i64 ((0 : Nat) : Int), .int .i64 ((0 : Nat) : Int), .int .i64 ((0 : Nat) : Int), .int .i64 ((0 : Nat) : Int), .int .i64 ((0 : Nat) : Int), .slice none 0 0] := hN18
            clear hN18
            refine R.assign ?_
            refine R.nil ?_
            refine E.seq ?_
            refine E.regionP rfl ?_
            refine R.move ?_
            refine R.move ?_
            refine R.gT rfl rfl ?_
            refine R.loadA t120 hB11 rfl rfl rfl trivial ?_
            refine R.gT rfl rfl ?_
            refine R.loadA t120 hB5 rfl rfl rfl trivial ?_
            refine R.gT rfl rfl ?_
            refine R.callE2 ent76 (rlike_ _) rfl rfl nofun ?_
            rintro v52 w19 hx19 rfl
            replace hR := hR.ext hx19
            replace hV := hV.ext hx19
            replace hU := hU.ext hx19
            replace hS37 := hS37.ext hx19
            replace hB3 := hB3.ext hx19
            replace hB5 := hB5.ext hx19
            replace hB11 := hB11.ext hx19
            replace hB13 := hB13.ext hx19
            replace hE := hE.ext hx19
            refine R.pickT rfl ?_
            refine R.move ?_
            have hg54 := Bool.eq_false_or_eq_true (decide (g37 = p))
            rcases hg54 with hg54 | hg54
            · have hg54q := hg54
              replace hg54 := dT hg54
              refine R.gT rfl (congrArg Value.bool hg54q) ?_
              refine R.fld fa120_0 rfl ?_
              refine R.gT rfl (congrArg Value.bool hg54q) ?_
              refine R.loadB t3 hB11 rfl rfl rfl trivial ?_
              refine R.gT rfl (congrArg Value.bool hg54q) ?_
              refine R.move ?_
              refine R.gT rfl (congrArg Value.bool hg54q) ?_
              refine R.eql (b := decide ((((j37 : Nat) : Int)) = (((k : Nat) : Int)))) rfl rfl rfl ?_
              refine R.pickT (congrArg Value.bool hg54q) ?_
              refine R.nil ?_
              refine E.cond (b := decide ((((j37 : Nat) : Int)) = (((k : Nat) : Int)))) rfl (fun hc59 => ?_) (fun hc59 => ?_)
              · replace hc59 := dT hc59
                refine E.forget [(1, .int .i64 ((a : Nat) : Int)), (3, .pointer (some ⟨b3, 0, none⟩)), (5, .pointer (some ⟨b5, 0, none⟩)), (7, .int .i64 ((r.n : Nat) : Int)), (8, v), (9, .int .i64 ((k : Nat) : Int)), (11, .pointer (some ⟨b11, 0, none⟩))] ⟨rfl, rfl, rfl, rfl, rfl, rfl, rfl, trivial⟩ (fun e => ?_)
                refine E.regionP rfl ?_
                refine R.move ?_
                refine R.loadA t120 hB11 rfl rfl rfl trivial ?_
                refine R.buildSlice [.agg #[.int .i64 ((j37 : Nat) : Int), .int .i64 ((g37.total : Nat) : Int), .int .i64 ((g37.number : Nat) : Int), .int .i64 ((g37.life : Nat) : Int), .int .i64 ((g37.first : Nat) : Int), u37]] Try.underlying115 t120 rfl rfl (by simp [Value.cells]) (by simp) nofun ?_
                intro b62 w20 hb62 hx20 hB62 hS62
                have hn_hV_62 := hV.new hb62
                have neS5_62 : b5 ≠ b62 := by have := hB5.lt; omega
                have neS11_62 : b11 ≠ b62 := by have := hB11.lt; omega
                have neS13_62 : b13 ≠ b62 := by have := hB13.lt; omega
                replace hb62 := Nat.le_trans hE.size hb62
                replace hR := hR.ext hx20
                replace hV := hV.ext hx20
                replace hU := hU.ext hx20
                replace hS37 := hS37.ext hx20
                replace hB3 := hB3.ext hx20
                replace hB5 := hB5.ext hx20
                replace hB11 := hB11.ext hx20
                replace hB13 := hB13.ext hx20
                replace hE := hE.ext hx20
                refine R.append Try.underlying115 Try.underlying115 t120 (by decide) rfl hV hS62.row (pcs_one (h := g37) (us := [u37]) (k := j37) (by simpa using hS37.one)) rfl rfl (by simp only [List.length_cons, List.length_nil]; omega) (by simp only [List.length_cons, List.length_nil]; omega) nofun ?_
                intro v63 w21 hU21 hS63 hd21
                have hF63 := Fresh.app hE hfv hd21
                have hnv63_5 := ne_app hd21 (hv5) hB5.lt
                have hnv63_11 := ne_app hd21 (hn_hV_11) hB11.lt
                have hnv63_13 := ne_app hd21 (hn_hV_13) hB13.lt
                replace hR := hR.upS hU21 hV (by decide)
                replace hU := hU.upS hU21 hV (by decide)
                replace hS37 := hS37.upS hU21 hV (by decide)
                replace hB3 := hB3.upS hU21 hV (by decide)
                replace hB5 := hB5.up hU21 (fun e => (hv5) e)
                replace hB11 := hB11.up hU21 (fun e => (hn_hV_11) e)
                replace hB13 := hB13.up hU21 (fun e => (hn_hV_13) e)
                replace hE := hE.app hU21 hfv
                refine R.assign ?_
                refine R.nil ?_
                refine E.regionP rfl ?_
                refine R.move ?_
                refine R.addN (m := k) (n := 1) rfl rfl (by omega) ?_
                refine R.assign ?_
                refine R.nil ?_
                exact ⟨p.total - (k + 1), by omega, k + 1, v63, (us ++ [u37]), (l ++ [dt37]), rfl, by omega, (foundL_step hf0 (partR1 (show hitL (tk r ((((a + k) % r.n) : Nat) : Int)) p k = some dt37 by rw [hk37]; exact hitL_hit hg54 (by omega)))), (by simp [hlk]), hF63, hnv63_5, hR, (by have e9 := hS63; rw [show pcsC p 0 us ++ _ = pcsC p 0 us ++ (pcC p (0 + us.length) u37).toList by rw [Nat.zero_add, hU.len, hlk, show k = j37 by omega, ← hg54]; rfl, pcsC_app] at e9; rw [List.length_append]; exact e9), (hU.snoc hS37), hB3, hB5, hE, rfl, rfl, rfl, rfl, rfl, rfl, trivial⟩
              · replace hc59 := dF hc59
                refine E.seq ?_
                refine E.forget [(1, .int .i64 ((a : Nat) : Int)), (3, .pointer (some ⟨b3, 0, none⟩)), (5, .pointer (some ⟨b5, 0, none⟩)), (7, .int .i64 ((r.n : Nat) : Int)), (8, v), (9, .int .i64 ((k : Nat) : Int)), (13, .pointer (some ⟨b13, 0, none⟩)), (14, .bool (false))] ⟨rfl, rfl, rfl, rfl, rfl, rfl, rfl, rfl, trivial⟩ (fun e => ?_)
                refine E.regionP rfl ?_
                refine R.move ?_
                refine R.move ?_
                refine R.gF rfl rfl rfl ?_
                refine R.gF rfl rfl rfl ?_
                refine R.gF rfl rfl rfl ?_
                refine R.pickF rfl ?_
                refine R.move ?_
                refine R.gF rfl rfl rfl ?_
                refine R.gF rfl rfl rfl ?_
                refine R.gF rfl rfl rfl ?_
                refine R.gF rfl rfl rfl ?_
                refine R.pickF rfl ?_
                refine R.nil ?_
                refine E.condF rfl ?_
                refine E.seq ?_
                refine E.forget [] trivial (fun e => ?_)
                refine E.regionP rfl ?_
                refine R.assign ?_
                refine R.nil ?_
                refine E.ret ?_
                refine ret1 (.slice none 0 0) rfl rfl ⟨_, rfl, ?_⟩
                refine ⟨hE, ?_⟩
                have h9 : foundR r a p = none := by unfold foundR; rw [if_neg (by omega)]; exact foundL_none (foundL_stop (partR2 (show hitL (tk r ((((a + k) % r.n) : Nat) : Int)) p k = none by rw [hk37]; first | rfl | exact hitL_miss (fun h => hg54 h.1) | exact hitL_miss (fun h => hc59 (by omega))) (show hitL (tk r ((((a + k) % r.n) + r.n : Nat) : Int)) p k = none by rw [hk45]; first | rfl | exact hitL_miss (fun h => hg70 h.1) | exact hitL_miss (fun h => hc75 (by omega))))) (by omega)
                rw [h9]; rfl
            · have hg54q := hg54
              replace hg54 := dF hg54
              refine R.gF rfl (congrArg Value.bool hg54q) rfl ?_
              refine R.gF rfl (congrArg Value.bool hg54q) rfl ?_
              refine R.gF rfl (congrArg Value.bool hg54q) rfl ?_
              refine R.gF rfl (congrArg Value.bool hg54q) rfl ?_
              refine R.pickF (congrArg Value.bool hg54q) ?_
              refine R.nil ?_
              refine E.condF rfl ?_
              refine E.seq ?_
              refine E.forget [(1, .int .i64 ((a : Nat) : Int)), (3, .pointer (some ⟨b3, 0, none⟩)), (5, .pointer (some ⟨b5, 0, none⟩)), (7, .int .i64 ((r.n : Nat) : Int)), (8, v), (9, .int .i64 ((k : Nat) : Int)), (13, .pointer (some ⟨b13, 0, none⟩)), (14, .bool (false))] ⟨rfl, rfl, rfl, rfl, rfl, rfl, rfl, rfl, trivial⟩ (fun e => ?_)
              refine E.regionP rfl ?_
              refine R.move ?_
              refine R.move ?_
              refine R.gF rfl rfl rfl ?_
              refine R.gF rfl rfl rfl ?_
              refine R.gF rfl rfl rfl ?_
              refine R.pickF rfl ?_
              refine R.move ?_
              refine R.gF rfl rfl rfl ?_
              refine R.gF rfl rfl rfl ?_
              refine R.gF rfl rfl rfl ?_
              refine R.gF rfl rfl rfl ?_
              refine R.pickF rfl ?_
              refine R.nil ?_
              refine E.condF rfl ?_
              refine E.seq ?_
              refine E.forget [] trivial (fun e => ?_)
              refine E.regionP rfl ?_
              refine R.assign ?_
              refine R.nil ?_
              refine E.ret ?_
              refine ret1 (.slice none 0 0) rfl rfl ⟨_, rfl, ?_⟩
              refine ⟨hE, ?_⟩
              have h9 : foundR r a p = none := by unfold foundR; rw [if_neg (by omega)]; exact foundL_none (foundL_stop (partR2 (show hitL (tk r ((((a + k) % r.n) : Nat) : Int)) p k = none by rw [hk37]; first | rfl | exact hitL_miss (fun h => hg54 h.1) | exact hitL_miss (fun h => hc59 (by omega))) (show hitL (tk r ((((a + k) % r.n) + r.n : Nat) : Int)) p k = none by rw [hk45]; first | rfl | exact hitL_miss (fun h => hg70 h.1) | exact hitL_miss (fun h => hc75 (by omega))))) (by omega)
              rw [h9]; rfl
          · replace hk45 : tk r ((((a + k) % r.n) + r.n : Nat) : Int) = some (g45, j45, dt45) := hk45
            rw [hk45] at hT45
            obtain ⟨u45, rfl, hS45, hF45⟩ := hT45
            replace hF45 := hF45.mono hE0.size
            have htt45 := tk_total hk45
            have hto45 := tk_ok hR.ok hk45
            refine R.move ?_
            refine R.extract rfl rfl ?_
            refine R.extract rfl rfl ?_
            refine R.alloc t120 nofun ?_
            intro b13 w22 hb13 hx22 hB13
            have ne5_13 : b5 ≠ b13 := by have := hB5.lt; omega
            have ne11_13 : b11 ≠ b13 := by have := hB11.lt; omega
            have hn_hV_13 := hV.new hb13
            replace hb13 := Nat.le_trans hE.size hb13
            replace hR := hR.ext hx22
            replace hV := hV.ext hx22
            replace hU := hU.ext hx22
            replace hS37 := hS37.ext hx22
            replace hS45 := hS45.ext hx22
            replace hB3 := hB3.ext hx22
            replace hB5 := hB5.ext hx22
            replace hB11 := hB11.ext hx22
            replace hE := hE.ext hx22
            replace hB13 : Blk _ b13 120 #[.int .i64 ((0 : Nat) : Int), .int .i64 ((0 : Nat) : Int), .int .i64 ((0 : Nat) : Int), .int .i64 ((0 : Nat) : Int), .int .i64 ((0 : Nat) : Int), .slice none 0 0] := hB13
            refine R.storeA t120 hB13 rfl rfl rfl rfl (ones6 rfl rfl rfl rfl rfl hS45.one) nofun ?_
            intro w23 hU23 hs23 hN23
            replace hR := hR.upT hU23 hB13 (by decide)
            replace hV := hV.upN hU23 hn_hV_13
            replace hU := hU.upT hU23 hB13 (by decide)
            replace hS37 := hS37.upT hU23 hB13 (by decide)
            replace hS45 := hS45.upT hU23 hB13 (by decide)
            replace hB3 := hB3.upT hU23 hB13 (by decide)
            replace hB5 := hB5.up hU23 (fun h => ne5_13 h)
            replace hB11 := hB11.up hU23 (fun h => ne11_13 h)
            replace hE := hE.own hU23 hb13
            replace hB13 : Blk _ b13 120 #[.int .i64 ((j45 : Nat) : Int), .int .i64 ((g45.total : Nat) : Int), .int .i64 ((g45.number : Nat) : Int), .int .i64 ((g45.life : Nat) : Int), .int .i64 ((g45.first : Nat) : Int), u45] := hN23
            clear hN23
            refine R.assign ?_
            refine R.nil ?_
            refine E.seq ?_
            refine E.regionP rfl ?_
            refine R.move ?_
            refine R.move ?_
            refine R.gT rfl rfl ?_
            refine R.loadA t120 hB11 rfl rfl rfl trivial ?_
            refine R.gT rfl rfl ?_
            refine R.loadA t120 hB5 rfl rfl rfl trivial ?_
            refine R.gT rfl rfl ?_
            refine R.callE2 ent76 (rlike_ _) rfl rfl nofun ?_
            rintro v52 w24 hx24 rfl
            replace hR := hR.ext hx24
            replace hV := hV.ext hx24
            replace hU := hU.ext hx24
            replace hS37 := hS37.ext hx24
            replace hS45 := hS45.ext hx24
            replace hB3 := hB3.ext hx24
            replace hB5 := hB5.ext hx24
            replace hB11 := hB11.ext hx24
            replace hB13 := hB13.ext hx24
            replace hE := hE.ext hx24
            refine R.pickT rfl ?_
            refine R.move ?_
            have hg54 := Bool.eq_false_or_eq_true (decide (g37 = p))
            rcases hg54 with hg54 | hg54
            · have hg54q := hg54
              replace hg54 := dT hg54
              refine R.gT rfl (congrArg Value.bool hg54q) ?_
              refine R.fld fa120_0 rfl ?_
              refine R.gT rfl (congrArg Value.bool hg54q) ?_
              refine R.loadB t3 hB11 rfl rfl rfl trivial ?_
              refine R.gT rfl (congrArg Value.bool hg54q) ?_
              refine R.move ?_
              refine R.gT rfl (congrArg Value.bool hg54q) ?_
              refine R.eql (b := decide ((((j37 : Nat) : Int)) = (((k : Nat) : Int)))) rfl rfl rfl ?_
              refine R.pickT (congrArg Value.bool hg54q) ?_
              refine R.nil ?_
              refine E.cond (b := decide ((((j37 : Nat) : Int)) = (((k : Nat) : Int)))) rfl (fun hc59 => ?_) (fun hc59 => ?_)
              · replace hc59 := dT hc59
                refine E.forget [(1, .int .i64 ((a : Nat) : Int)), (3, .pointer (some ⟨b3, 0, none⟩)), (5, .pointer (some ⟨b5, 0, none⟩)), (7, .int .i64 ((r.n : Nat) : Int)), (8, v), (9, .int .i64 ((k : Nat) : Int)), (11, .pointer (some ⟨b11, 0, none⟩))] ⟨rfl, rfl, rfl, rfl, rfl, rfl, rfl, trivial⟩ (fun e => ?_)
                refine E.regionP rfl ?_
                refine R.move ?_
                refine R.loadA t120 hB11 rfl rfl rfl trivial ?_
                refine R.buildSlice [.agg #[.int .i64 ((j37 : Nat) : Int), .int .i64 ((g37.total : Nat) : Int), .int .i64 ((g37.number : Nat) : Int), .int .i64 ((g37.life : Nat) : Int), .int .i64 ((g37.first : Nat) : Int), u37]] Try.underlying115 t120 rfl rfl (by simp [Value.cells]) (by simp) nofun ?_
                intro b62 w25 hb62 hx25 hB62 hS62
                have hn_hV_62 := hV.new hb62
                have neS5_62 : b5 ≠ b62 := by have := hB5.lt; omega
                have neS11_62 : b11 ≠ b62 := by have := hB11.lt; omega
                have neS13_62 : b13 ≠ b62 := by have := hB13.lt; omega
                replace hb62 := Nat.le_trans hE.size hb62
                replace hR := hR.ext hx25
                replace hV := hV.ext hx25
                replace hU := hU.ext hx25
                replace hS37 := hS37.ext hx25
                replace hS45 := hS45.ext hx25
                replace hB3 := hB3.ext hx25
                replace hB5 := hB5.ext hx25
                replace hB11 := hB11.ext hx25
                replace hB13 := hB13.ext hx25
                replace hE := hE.ext hx25
                refine R.append Try.underlying115 Try.underlying115 t120 (by decide) rfl hV hS62.row (pcs_one (h := g37) (us := [u37]) (k := j37) (by simpa using hS37.one)) rfl rfl (by simp only [List.length_cons, List.length_nil]; omega) (by simp only [List.length_cons, List.length_nil]; omega) nofun ?_
                intro v63 w26 hU26 hS63 hd26
                have hF63 := Fresh.app hE hfv hd26
                have hnv63_5 := ne_app hd26 (hv5) hB5.lt
                have hnv63_11 := ne_app hd26 (hn_hV_11) hB11.lt
                have hnv63_13 := ne_app hd26 (hn_hV_13) hB13.lt
                replace hR := hR.upS hU26 hV (by decide)
                replace hU := hU.upS hU26 hV (by decide)
                replace hS37 := hS37.upS hU26 hV (by decide)
                replace hS45 := hS45.upS hU26 hV (by decide)
                replace hB3 := hB3.upS hU26 hV (by decide)
                replace hB5 := hB5.up hU26 (fun e => (hv5) e)
                replace hB11 := hB11.up hU26 (fun e => (hn_hV_11) e)
                replace hB13 := hB13.up hU26 (fun e => (hn_hV_13) e)
                replace hE := hE.app hU26 hfv
                refine R.assign ?_
                refine R.nil ?_
                refine E.regionP rfl ?_
                refine R.move ?_
                refine R.addN (m := k) (n := 1) rfl rfl (by omega) ?_
                refine R.assign ?_
                refine R.nil ?_
                exact ⟨p.total - (k + 1), by omega, k + 1, v63, (us ++ [u37]), (l ++ [dt37]), rfl, by omega, (foundL_step hf0 (partR1 (show hitL (tk r ((((a + k) % r.n) : Nat) : Int)) p k = some dt37 by rw [hk37]; exact hitL_hit hg54 (by omega)))), (by simp [hlk]), hF63, hnv63_5, hR, (by have e9 := hS63; rw [show pcsC p 0 us ++ _ = pcsC p 0 us ++ (pcC p (0 + us.length) u37).toList by rw [Nat.zero_add, hU.len, hlk, show k = j37 by omega, ← hg54]; rfl, pcsC_app] at e9; rw [List.length_append]; exact e9), (hU.snoc hS37), hB3, hB5, hE, rfl, rfl, rfl, rfl, rfl, rfl, trivial⟩
              · replace hc59 := dF hc59
                refine E.seq ?_
                refine E.forget [(1, .int .i64 ((a : Nat) : Int)), (3, .pointer (some ⟨b3, 0, none⟩)), (5, .pointer (some ⟨b5, 0, none⟩)), (7, .int .i64 ((r.n : Nat) : Int)), (8, v), (9, .int .i64 ((k : Nat) : Int)), (13, .pointer (some ⟨b13, 0, none⟩)), (14, .bool (true))] ⟨rfl, rfl, rfl, rfl, rfl, rfl, rfl, rfl, trivial⟩ (fun e => ?_)
                refine E.regionP rfl ?_
                refine R.move ?_
                refine R.move ?_
                refine R.gT rfl rfl ?_
                refine R.loadA t120 hB13 rfl rfl rfl trivial ?_
                refine R.gT rfl rfl ?_
                refine R.loadA t120 hB5 rfl rfl rfl trivial ?_
                refine R.gT rfl rfl ?_
                refine R.callE2 ent76 (rlike_ _) rfl rfl nofun ?_
                rintro v68 w27 hx27 rfl
                replace hR := hR.ext hx27
                replace hV := hV.ext hx27
                replace hU := hU.ext hx27
                replace hS37 := hS37.ext hx27
                replace hS45 := hS45.ext hx27
                replace hB3 := hB3.ext hx27
                replace hB5 := hB5.ext hx27
                replace hB11 := hB11.ext hx27
                replace hB13 := hB13.ext hx27
                replace hE := hE.ext hx27
                refine R.pickT rfl ?_
                refine R.move ?_
                have hg70 := Bool.eq_false_or_eq_true (decide (g45 = p))
                rcases hg70 with hg70 | hg70
                · have hg70q := hg70
                  replace hg70 := dT hg70
                  refine R.gT rfl (congrArg Value.bool hg70q) ?_
                  refine R.fld fa120_0 rfl ?_
                  refine R.gT rfl (congrArg Value.bool hg70q) ?_
                  refine R.loadB t3 hB13 rfl rfl rfl trivial ?_
                  refine R.gT rfl (congrArg Value.bool hg70q) ?_
                  refine R.move ?_
                  refine R.gT rfl (congrArg Value.bool hg70q) ?_
                  refine R.eql (b := decide ((((j45 : Nat) : Int)) = (((k : Nat) : Int)))) rfl rfl rfl ?_
                  refine R.pickT (congrArg Value.bool hg70q) ?_
                  refine R.nil ?_
                  refine E.cond (b := decide ((((j45 : Nat) : Int)) = (((k : Nat) : Int)))) rfl (fun hc75 => ?_) (fun hc75 => ?_)
                  · replace hc75 := dT hc75
                    refine E.forget [(1, .int .i64 ((a : Nat) : Int)), (3, .pointer (some ⟨b3, 0, none⟩)), (5, .pointer (some ⟨b5, 0, none⟩)), (7, .int .i64 ((r.n : Nat) : Int)), (8, v), (9, .int .i64 ((k : Nat) : Int)), (13, .pointer (some ⟨b13, 0, none⟩))] ⟨rfl, rfl, rfl, rfl, rfl, rfl, rfl, trivial⟩ (fun e => ?_)
                    refine E.regionP rfl ?_
                    refine R.move ?_
                    refine R.loadA t120 hB13 rfl rfl rfl trivial ?_
                    refine R.buildSlice [.agg #[.int .i64 ((j45 : Nat) : Int), .int .i64 ((g45.total : Nat) : Int), .int .i64 ((g45.number : Nat) : Int), .int .i64 ((g45.life : Nat) : Int), .int .i64 ((g45.first : Nat) : Int), u45]] Try.underlying115 t120 rfl rfl (by simp [Value.cells]) (by simp) nofun ?_
                    intro b78 w28 hb78 hx28 hB78 hS78
                    have hn_hV_78 := hV.new hb78
                    have neS5_78 : b5 ≠ b78 := by have := hB5.lt; omega
                    have neS11_78 : b11 ≠ b78 := by have := hB11.lt; omega
                    have neS13_78 : b13 ≠ b78 := by have := hB13.lt; omega
                    replace hb78 := Nat.le_trans hE.size hb78
                    replace hR := hR.ext hx28
                    replace hV := hV.ext hx28
                    replace hU := hU.ext hx28
                    replace hS37 := hS37.ext hx28
                    replace hS45 := hS45.ext hx28
                    replace hB3 := hB3.ext hx28
                    replace hB5 := hB5.ext hx28
                    replace hB11 := hB11.ext hx28
                    replace hB13 := hB13.ext hx28
                    replace hE := hE.ext hx28
                    refine R.append Try.underlying115 Try.underlying115 t120 (by decide) rfl hV hS78.row (pcs_one (h := g45) (us := [u45]) (k := j45) (by simpa using hS45.one)) rfl rfl (by simp only [List.length_cons, List.length_nil]; omega) (by simp only [List.length_cons, List.length_nil]; omega) nofun ?_
                    intro v79 w29 hU29 hS79 hd29
                    have hF79 := Fresh.app hE hfv hd29
                    have hnv79_5 := ne_app hd29 (hv5) hB5.lt
                    have hnv79_11 := ne_app hd29 (hn_hV_11) hB11.lt
                    have hnv79_13 := ne_app hd29 (hn_hV_13) hB13.lt
                    replace hR := hR.upS hU29 hV (by decide)
                    replace hU := hU.upS hU29 hV (by decide)
                    replace hS37 := hS37.upS hU29 hV (by decide)
                    replace hS45 := hS45.upS hU29 hV (by decide)
                    replace hB3 := hB3.upS hU29 hV (by decide)
                    replace hB5 := hB5.up hU29 (fun e => (hv5) e)
                    replace hB11 := hB11.up hU29 (fun e => (hn_hV_11) e)
                    replace hB13 := hB13.up hU29 (fun e => (hn_hV_13) e)
                    replace hE := hE.app hU29 hfv
                    refine R.assign ?_
                    refine R.nil ?_
                    refine E.regionP rfl ?_
                    refine R.move ?_
                    refine R.addN (m := k) (n := 1) rfl rfl (by omega) ?_
                    refine R.assign ?_
                    refine R.nil ?_
                    exact ⟨p.total - (k + 1), by omega, k + 1, v79, (us ++ [u45]), (l ++ [dt45]), rfl, by omega, (foundL_step hf0 (partR2 (show hitL (tk r ((((a + k) % r.n) : Nat) : Int)) p k = none by rw [hk37]; first | rfl | exact hitL_miss (fun h => hg54 h.1) | exact hitL_miss (fun h => hc59 (by omega))) (show hitL (tk r ((((a + k) % r.n) + r.n : Nat) : Int)) p k = some dt45 by rw [hk45]; exact hitL_hit hg70 (by omega)))), (by simp [hlk]), hF79, hnv79_5, hR, (by have e9 := hS79; rw [show pcsC p 0 us ++ _ = pcsC p 0 us ++ (pcC p (0 + us.length) u45).toList by rw [Nat.zero_add, hU.len, hlk, show k = j45 by omega, ← hg70]; rfl, pcsC_app] at e9; rw [List.length_append]; exact e9), (hU.snoc hS45), hB3, hB5, hE, rfl, rfl, rfl, rfl, rfl, rfl, trivial⟩
                  · replace hc75 := dF hc75
                    refine E.seq ?_
                    refine E.forget [] trivial (fun e => ?_)
                    refine E.regionP rfl ?_
                    refine R.assign ?_
                    refine R.nil ?_
                    refine E.ret ?_
                    refine ret1 (.slice none 0 0) rfl rfl ⟨_, rfl, ?_⟩
                    refine ⟨hE, ?_⟩
                    have h9 : foundR r a p = none := by unfold foundR; rw [if_neg (by omega)]; exact foundL_none (foundL_stop (partR2 (show hitL (tk r ((((a + k) % r.n) : Nat) : Int)) p k = none by rw [hk37]; first | rfl | exact hitL_miss (fun h => hg54 h.1) | exact hitL_miss (fun h => hc59 (by omega))) (show hitL (tk r ((((a + k) % r.n) + r.n : Nat) : Int)) p k = none by rw [hk45]; first | rfl | exact hitL_miss (fun h => hg70 h.1) | exact hitL_miss (fun h => hc75 (by omega))))) (by omega)
                    rw [h9]; rfl
                · have hg70q := hg70
                  replace hg70 := dF hg70
                  refine R.gF rfl (congrArg Value.bool hg70q) rfl ?_
                  refine R.gF rfl (congrArg Value.bool hg70q) rfl ?_
                  refine R.gF rfl (congrArg Value.bool hg70q) rfl ?_
                  refine R.gF rfl (congrArg Value.bool hg70q) rfl ?_
                  refine R.pickF (congrArg Value.bool hg70q) ?_
                  refine R.nil ?_
                  refine E.condF rfl ?_
                  refine E.seq ?_
                  refine E.forget [] trivial (fun e => ?_)
                  refine E.regionP rfl ?_
                  refine R.assign ?_
                  refine R.nil ?_
                  refine E.ret ?_
                  refine ret1 (.slice none 0 0) rfl rfl ⟨_, rfl, ?_⟩
                  refine ⟨hE, ?_⟩
                  have h9 : foundR r a p = none := by unfold foundR; rw [if_neg (by omega)]; exact foundL_none (foundL_stop (partR2 (show hitL (tk r ((((a + k) % r.n) : Nat) : Int)) p k = none by rw [hk37]; first | rfl | exact hitL_miss (fun h => hg54 h.1) | exact hitL_miss (fun h => hc59 (by omega))) (show hitL (tk r ((((a + k) % r.n) + r.n : Nat) : Int)) p k = none by rw [hk45]; first | rfl | exact hitL_miss (fun h => hg70 h.1) | exact hitL_miss (fun h => hc75 (by omega))))) (by omega)
                  rw [h9]; rfl
            · have hg54q := hg54
              replace hg54 := dF hg54
              refine R.gF rfl (congrArg Value.bool hg54q) rfl ?_
              refine R.gF rfl (congrArg Value.bool hg54q) rfl ?_
              refine R.gF rfl (congrArg Value.bool hg54q) rfl ?_
              refine R.gF rfl (congrArg Value.bool hg54q) rfl ?_
              refine R.pickF (congrArg Value.bool hg54q) ?_
              refine R.nil ?_
              refine E.condF rfl ?_
              refine E.seq ?_
              refine E.forget [(1, .int .i64 ((a : Nat) : Int)), (3, .pointer (some ⟨b3, 0, none⟩)), (5, .pointer (some ⟨b5, 0, none⟩)), (7, .int .i64 ((r.n : Nat) : Int)), (8, v), (9, .int .i64 ((k : Nat) : Int)), (13, .pointer (some ⟨b13, 0, none⟩)), (14, .bool (true))] ⟨rfl, rfl, rfl, rfl, rfl, rfl, rfl, rfl, trivial⟩ (fun e => ?_)
              refine E.regionP rfl ?_
              refine R.move ?_
              refine R.move ?_
              refine R.gT rfl rfl ?_
              refine R.loadA t120 hB13 rfl rfl rfl trivial ?_
              refine R.gT rfl rfl ?_
              refine R.loadA t120 hB5 rfl rfl rfl trivial ?_
              refine R.gT rfl rfl ?_
              refine R.callE2 ent76 (rlike_ _) rfl rfl nofun ?_
              rintro v68 w30 hx30 rfl
              replace hR := hR.ext hx30
              replace hV := hV.ext hx30
              replace hU := hU.ext hx30
              replace hS37 := hS37.ext hx30
              replace hS45 := hS45.ext hx30
              replace hB3 := hB3.ext hx30
              replace hB5 := hB5.ext hx30
              replace hB11 := hB11.ext hx30
              replace hB13 := hB13.ext hx30
              replace hE := hE.ext hx30
              refine R.pickT rfl ?_
              refine R.move ?_
              have hg70 := Bool.eq_false_or_eq_true (decide (g45 = p))
              rcases hg70 with hg70 | hg70
              · have hg70q := hg70
                replace hg70 := dT hg70
                refine R.gT rfl (congrArg Value.bool hg70q) ?_
                refine R.fld fa120_0 rfl ?_
                refine R.gT rfl (congrArg Value.bool hg70q) ?_
                refine R.loadB t3 hB13 rfl rfl rfl trivial ?_
                refine R.gT rfl (congrArg Value.bool hg70q) ?_
                refine R.move ?_
                refine R.gT rfl (congrArg Value.bool hg70q) ?_
                refine R.eql (b := decide ((((j45 : Nat) : Int)) = (((k : Nat) : Int)))) rfl rfl rfl ?_
                refine R.pickT (congrArg Value.bool hg70q) ?_
                refine R.nil ?_
                refine E.cond (b := decide ((((j45 : Nat) : Int)) = (((k : Nat) : Int)))) rfl (fun hc75 => ?_) (fun hc75 => ?_)
                · replace hc75 := dT hc75
                  refine E.forget [(1, .int .i64 ((a : Nat) : Int)), (3, .pointer (some ⟨b3, 0, none⟩)), (5, .pointer (some ⟨b5, 0, none⟩)), (7, .int .i64 ((r.n : Nat) : Int)), (8, v), (9, .int .i64 ((k : Nat) : Int)), (13, .pointer (some ⟨b13, 0, none⟩))] ⟨rfl, rfl, rfl, rfl, rfl, rfl, rfl, trivial⟩ (fun e => ?_)
                  refine E.regionP rfl ?_
                  refine R.move ?_
                  refine R.loadA t120 hB13 rfl rfl rfl trivial ?_
                  refine R.buildSlice [.agg #[.int .i64 ((j45 : Nat) : Int), .int .i64 ((g45.total : Nat) : Int), .int .i64 ((g45.number : Nat) : Int), .int .i64 ((g45.life : Nat) : Int), .int .i64 ((g45.first : Nat) : Int), u45]] Try.underlying115 t120 rfl rfl (by simp [Value.cells]) (by simp) nofun ?_
                  intro b78 w31 hb78 hx31 hB78 hS78
                  have hn_hV_78 := hV.new hb78
                  have neS5_78 : b5 ≠ b78 := by have := hB5.lt; omega
                  have neS11_78 : b11 ≠ b78 := by have := hB11.lt; omega
                  have neS13_78 : b13 ≠ b78 := by have := hB13.lt; omega
                  replace hb78 := Nat.le_trans hE.size hb78
                  replace hR := hR.ext hx31
                  replace hV := hV.ext hx31
                  replace hU := hU.ext hx31
                  replace hS37 := hS37.ext hx31
                  replace hS45 := hS45.ext hx31
                  replace hB3 := hB3.ext hx31
                  replace hB5 := hB5.ext hx31
                  replace hB11 := hB11.ext hx31
                  replace hB13 := hB13.ext hx31
                  replace hE := hE.ext hx31
                  refine R.append Try.underlying115 Try.underlying115 t120 (by decide) rfl hV hS78.row (pcs_one (h := g45) (us := [u45]) (k := j45) (by simpa using hS45.one)) rfl rfl (by simp only [List.length_cons, List.length_nil]; omega) (by simp only [List.length_cons, List.length_nil]; omega) nofun ?_
                  intro v79 w32 hU32 hS79 hd32
                  have hF79 := Fresh.app hE hfv hd32
                  have hnv79_5 := ne_app hd32 (hv5) hB5.lt
                  have hnv79_11 := ne_app hd32 (hn_hV_11) hB11.lt
                  have hnv79_13 := ne_app hd32 (hn_hV_13) hB13.lt
                  replace hR := hR.upS hU32 hV (by decide)
                  replace hU := hU.upS hU32 hV (by decide)
                  replace hS37 := hS37.upS hU32 hV (by decide)
                  replace hS45 := hS45.upS hU32 hV (by decide)
                  replace hB3 := hB3.upS hU32 hV (by decide)
                  replace hB5 := hB5.up hU32 (fun e => (hv5) e)
                  replace hB11 := hB11.up hU32 (fun e => (hn_hV_11) e)
                  replace hB13 := hB13.up hU32 (fun e => (hn_hV_13) e)
                  replace hE := hE.app hU32 hfv
                  refine R.assign ?_
                  refine R.nil ?_
                  refine E.regionP rfl ?_
                  refine R.move ?_
                  refine R.addN (m := k) (n := 1) rfl rfl (by omega) ?_
                  refine R.assign ?_
                  refine R.nil ?_
                  exact ⟨p.total - (k + 1), by omega, k + 1, v79, (us ++ [u45]), (l ++ [dt45]), rfl, by omega, (foundL_step hf0 (partR2 (show hitL (tk r ((((a + k) % r.n) : Nat) : Int)) p k = none by rw [hk37]; first | rfl | exact hitL_miss (fun h => hg54 h.1) | exact hitL_miss (fun h => hc59 (by omega))) (show hitL (tk r ((((a + k) % r.n) + r.n : Nat) : Int)) p k = some dt45 by rw [hk45]; exact hitL_hit hg70 (by omega)))), (by simp [hlk]), hF79, hnv79_5, hR, (by have e9 := hS79; rw [show pcsC p 0 us ++ _ = pcsC p 0 us ++ (pcC p (0 + us.length) u45).toList by rw [Nat.zero_add, hU.len, hlk, show k = j45 by omega, ← hg70]; rfl, pcsC_app] at e9; rw [List.length_append]; exact e9), (hU.snoc hS45), hB3, hB5, hE, rfl, rfl, rfl, rfl, rfl, rfl, trivial⟩
                · replace hc75 := dF hc75
                  refine E.seq ?_
                  refine E.forget [] trivial (fun e => ?_)
                  refine E.regionP rfl ?_
                  refine R.assign ?_
                  refine R.nil ?_
                  refine E.ret ?_
                  refine ret1 (.slice none 0 0) rfl rfl ⟨_, rfl, ?_⟩
                  refine ⟨hE, ?_⟩
                  have h9 : foundR r a p = none := by unfold foundR; rw [if_neg (by omega)]; exact foundL_none (foundL_stop (partR2 (show hitL (tk r ((((a + k) % r.n) : Nat) : Int)) p k = none by rw [hk37]; first | rfl | exact hitL_miss (fun h => hg54 h.1) | exact hitL_miss (fun h => hc59 (by omega))) (show hitL (tk r ((((a + k) % r.n) + r.n : Nat) : Int)) p k = none by rw [hk45]; first | rfl | exact hitL_miss (fun h => hg70 h.1) | exact hitL_miss (fun h => hc75 (by omega))))) (by omega)
                  rw [h9]; rfl
              · have hg70q := hg70
                replace hg70 := dF hg70
                refine R.gF rfl (congrArg Value.bool hg70q) rfl ?_
                refine R.gF rfl (congrArg Value.bool hg70q) rfl ?_
                refine R.gF rfl (congrArg Value.bool hg70q) rfl ?_
                refine R.gF rfl (congrArg Value.bool hg70q) rfl ?_
                refine R.pickF (congrArg Value.bool hg70q) ?_
                refine R.nil ?_
                refine E.condF rfl ?_
                refine E.seq ?_
                refine E.forget [] trivial (fun e => ?_)
                refine E.regionP rfl ?_
                refine R.assign ?_
                refine R.nil ?_
                refine E.ret ?_
                refine ret1 (.slice none 0 0) rfl rfl ⟨_, rfl, ?_⟩
                refine ⟨hE, ?_⟩
                have h9 : foundR r a p = none := by unfold foundR; rw [if_neg (by omega)]; exact foundL_none (foundL_stop (partR2 (show hitL (tk r ((((a + k) % r.n) : Nat) : Int)) p k = none by rw [hk37]; first | rfl | exact hitL_miss (fun h => hg54 h.1) | exact hitL_miss (fun h => hc59 (by omega))) (show hitL (tk r ((((a + k) % r.n) + r.n : Nat) : Int)) p k = none by rw [hk45]; first | rfl | exact hitL_miss (fun h => hg70 h.1) | exact hitL_miss (fun h => hc75 (by omega))))) (by omega)
                rw [h9]; rfl
      · replace hc26 := dF hc26
        refine E.exit ?_
        refine E.seq ?_
        refine E.regionP rfl ?_
        refine R.move ?_
        refine R.assign ?_
        refine R.nil ?_
        refine E.ret ?_
        refine ret1 (v) rfl rfl ⟨_, rfl, ?_⟩
        refine ⟨hE, ?_⟩
        obtain rfl : k = p.total := by omega
        have h9 : foundR r a p = some l := by unfold foundR; rw [if_neg (by omega)]; exact hf0
        rw [h9]
        exact ⟨us, hV, hU⟩
end Go.Proofs.Ytlplogplicgfiaa
