import Derived.Test.YtlplogplicgfiaaZ5QC
namespace Go.Proofs.Ytlplogplicgfiaa
open Go Go.RowKit
theorem get_out (w : World) {b901 b900 : Nat} {vl : Value} {us : List Value} {j : Jn} {q : Nat} (hJ : JM w b901 b900 vl us j) (hO : JOK j) (hb : ∀ i, i < j.live.length → (j.live.getD i Rc0).dat.length ≤ 4032) (hq : q < firstN j.live ∨ lastN j.live < q) (hn2 : q ≤ 9223372036854775807) :
    Calls Try.prog 41 #[.pointer (some ⟨b901, 0, none⟩), .int .i64 ((q : Nat) : Int)] w (Ret fun r w' => Ext w w' ∧ r = .tuple #[.slice none 0 0, .bool false]) := by
  refine (get_ w (n := (q : Int)) hJ hO hb (by omega) (by omega)).mono ?_
  rintro e w' ⟨v, hv, hE, h⟩
  refine ⟨v, hv, hE, ?_⟩
  unfold GRes at h
  rw [if_pos (by omega)] at h
  exact h
theorem get_in (w : World) {b901 b900 : Nat} {vl : Value} {us : List Value} {j : Jn} {q : Nat} (hJ : JM w b901 b900 vl us j) (hO : JOK j) (hb : ∀ i, i < j.live.length → (j.live.getD i Rc0).dat.length ≤ 4032) (hq : firstN j.live ≤ q ∧ q ≤ lastN j.live) (hn2 : q ≤ 9223372036854775807) :
    Calls Try.prog 41 #[.pointer (some ⟨b901, 0, none⟩), .int .i64 ((q : Nat) : Int)] w (Ret fun r w' => Ext w w' ∧ ∃ v, r = .tuple #[v, .bool true] ∧ SU8s w' v (j.live.getD (q - firstN j.live) Rc0).dat ∧ Fresh w v) := by
  refine (get_ w (n := (q : Int)) hJ hO hb (by omega) (by omega)).mono ?_
  rintro e w' ⟨v, hv, hE, h⟩
  refine ⟨v, hv, hE, ?_⟩
  unfold GRes at h
  rw [if_neg (by omega), show ((q : Int) - (firstN j.live : Int)).toNat = q - firstN j.live by omega] at h
  exact h
theorem Sl.upG {w0 w w' : World} {X : Nat → Prop} {ty : TypeId} {k n : Nat} {v : Value} {cs ds : List Value} (h0 : Sl w0 ty k v n ds) (h : Sl w ty k v n cs) (u : Upd X w w') (hX : ∀ x, X x → w0.heap.size ≤ x) : Sl w' ty k v n cs := h.up u (fun b hb e => by have := h0.lt b hb; have := hX b e; omega)
theorem RJ.upG {w0 w w' : World} {X : Nat → Prop} {rb rd vR vP : Value} {uR : List Value} {d : Dk} {j : Jn} (h0 : RJ w0 rb rd vR vP uR d j) (h : RJ w rb rd vR vP uR d j) (u : Upd X w w') (hX : ∀ x, X x → w0.heap.size ≤ x) : RJ w' rb rd vR vP uR d j :=
  ⟨⟨h0.d.bls.upG h.d.bls u hX, h0.d.bds.upG h.d.bds u hX, h.d.ok⟩, ⟨h0.recs.sl.upG h.recs.sl u hX, h.recs.rows.len, fun i hi => (h0.recs.rows.rows i hi).upG (h.recs.rows.rows i hi) u hX⟩, h0.pls.upG h.pls u hX⟩
theorem JM.upG {w0 w w' : World} {X : Nat → Prop} {pj pd : Nat} {vl : Value} {us : List Value} {j : Jn} (h0 : JM w0 pj pd vl us j) (h : JM w pj pd vl us j) (u : Upd X w w') (hX : ∀ x, X x → w0.heap.size ≤ x) : JM w' pj pd vl us j :=
  ⟨h.blk.up u (fun e => by have := h0.blk.lt; have := hX _ e; omega), h0.lv.upG h.lv u hX, h.len, fun i hi => (h0.rows i hi).upG (h.rows i hi) u hX⟩
theorem RJ.up0 {X : Nat → Prop} {w w' : World} {rb rd vR vP : Value} {uR : List Value} {d : Dk} {j : Jn} (h : RJ w rb rd vR vP uR d j) (u : Upd X w w') (hX : ∀ x ty cs, Blk w x ty cs → X x → 26 ≠ ty ∧ 4 ≠ ty ∧ 55 ≠ ty ∧ 5 ≠ ty ∧ 3 ≠ ty) : RJ w' rb rd vR vP uR d j := by
  have k : ∀ {ty : TypeId} {k n : Nat} {v : Value} {cs : List Value}, (ty = 26 ∨ ty = 4 ∨ ty = 55 ∨ ty = 5 ∨ ty = 3) → Sl w ty k v n cs → Sl w' ty k v n cs := fun ht hs => hs.up u (fun b hb e => by
    obtain ⟨c, q⟩ := hs.blk hb
    obtain ⟨h1, h2, h3, h4, h5⟩ := hX _ _ _ q e
    rcases ht with rfl | rfl | rfl | rfl | rfl <;> contradiction)
  exact ⟨⟨k (.inl rfl) h.d.bls, k (.inr (.inl rfl)) h.d.bds, h.d.ok⟩, ⟨k (.inr (.inr (.inl rfl))) h.recs.sl, h.recs.rows.len, fun i hi => k (.inr (.inr (.inr (.inl rfl)))) (h.recs.rows.rows i hi)⟩, k (.inr (.inr (.inr (.inr rfl)))) h.pls⟩
theorem RJ.upT {w w' : World} {b : Nat} {ty : TypeId} {cs : Array Value} {rb rd vR vP : Value} {uR : List Value} {d : Dk} {j : Jn} (h : RJ w rb rd vR vP uR d j) (u : Upd (one b) w w') (hB : Blk w b ty cs) (hne : 26 ≠ ty ∧ 4 ≠ ty ∧ 55 ≠ ty ∧ 5 ≠ ty ∧ 3 ≠ ty) : RJ w' rb rd vR vP uR d j := h.up0 u (fun x t c q e => by
  have e1 : x = b := e
  subst e1
  have := (q.inj hB).2
  rw [this]; exact hne)
theorem RJ.upS {w w' : World} {ty' k' m : Nat} {x : Value} {ds : List Value} {rb rd vR vP : Value} {uR : List Value} {d : Dk} {j : Jn} (h : RJ w rb rd vR vP uR d j) (u : Upd (fun b => vblk x = some b) w w') (hx : Sl w ty' k' x m ds) (hne : 26 ≠ ty' ∧ 4 ≠ ty' ∧ 55 ≠ ty' ∧ 5 ≠ ty' ∧ 3 ≠ ty') : RJ w' rb rd vR vP uR d j := h.up0 u (fun b t c q e => by
  obtain ⟨c2, q2⟩ := hx.blk e
  have := (q.inj q2).2
  rw [this]; exact hne)
set_option maxHeartbeats 1600000 in
theorem like_ (w : World) {b901 b900 : Nat} {vl vb vd : Value} {us : List Value} {rb rd vR vP : Value} {uR : List Value} {d : Dk} {j : Jn} (hD : DM w b900 vb vd d) (hJ : JM w b901 b900 vl us j) (hG : RJ w rb rd vR vP uR d j) (hg : JG d.n j) (hn : 0 < d.n) : Calls Try.prog 48 #[.pointer (some ⟨b901, 0, none⟩), .pointer (some ⟨b900, 0, none⟩), .agg (rjC rb rd vR vP d j)] w (Ret fun x w' => Ext w w' ∧ x = .bool true) := by
  have hbn := Dk.n_pos hn
  have hlst := hg.lst
  have hf1 := hg.ok.fst
  have hmx := hg.ok.max
  have hll := hg.ok.len
  refine calls_E (args := [.pointer (some ⟨b901, 0, none⟩), .pointer (some ⟨b900, 0, none⟩), .agg #[rb, rd, .int .i64 (d.pw), .bool (d.tr), vR, vP, .int .i64 (((firstN j.live) : Nat) : Int), .int .i64 ((j.life : Nat) : Int), .int .i64 ((j.mended : Nat) : Int), .bool (j.down)]]) 125 Try.func48 rfl rfl (by simp) ?_
  have hE : Ext w w := Upd.refl w
  refine E.seq ?_
  refine E.regionP rfl ?_
  refine R.box rfl nofun ?_
  intro b5 w1 hb5 hx1 hB5
  replace hb5 := Nat.le_trans hE.size hb5
  replace hG := hG.ext hx1
  replace hD := hD.ext hx1
  replace hJ := hJ.ext hx1
  replace hE := hE.ext hx1
  replace hB5 : Blk _ b5 93 #[rb, rd, .int .i64 (d.pw), .bool (d.tr), vR, vP, .int .i64 (((firstN j.live) : Nat) : Int), .int .i64 ((j.life : Nat) : Int), .int .i64 ((j.mended : Nat) : Int), .bool (j.down)] := hB5
  refine R.assign ?_
  refine R.nil ?_
  refine E.seq ?_
  refine E.seq ?_
  refine E.regionW (fun c x => x < w1.heap.size ∧ (c = false → True)) []  mixed rfl (by kernel_rfl) ?_
  intro w2 hx2 hh2
  replace hG := hG.ext hx2
  replace hD := hD.ext hx2
  replace hJ := hJ.ext hx2
  replace hB5 := hB5.ext hx2
  replace hE := hE.ext hx2
  have hEs : Ext w2 w2 := Upd.refl _
  have hS0 := hx2.size
  have hSB : ∀ b, b < w2.heap.size → b < w1.heap.size ∧ (true = false → (fun x => True) b) := fun b hb => ⟨by rw [hh2] at hb; exact hb, nofun⟩
  have hSA : ∀ b, b < w2.heap.size → (fun x => True) b → b < w1.heap.size ∧ (false = false → (fun x => True) b) := fun b hb h => ⟨by rw [hh2] at hb; exact hb, fun _ => h⟩
  have hSO : ∀ b, b < w.heap.size → b < w1.heap.size ∧ (false = false → (fun x => True) b) := fun b hb => hSA b (Nat.lt_of_lt_of_le hb hE.size) (trivial)
  have hGs := hG
  have hDs := hD
  have hJs := hJ
  have hB5s := hB5
  refine R.move ?_
  refine R.fld fa93_0 rfl ?_
  refine R.loadS t31 hB5 rfl (us := [rb, rd, .int .i64 (d.pw), .bool (d.tr)]) rfl rfl rfl (hSA b5 hB5s.lt (trivial)) ?_
  refine R.callE2 ent19 (same_ _ hD hG.d (by omega) (by omega)) rfl rfl (fun _ _ hb => Nat.lt_of_lt_of_le hb.1 (Nat.le_trans hS0 hEs.size)) ?_
  rintro v15 w3 hx3 rfl
  replace hG := hG.ext hx3
  replace hD := hD.ext hx3
  replace hJ := hJ.ext hx3
  replace hB5 := hB5.ext hx3
  replace hE := hE.ext hx3
  replace hEs := hEs.ext hx3
  refine R.not rfl ?_
  refine R.move ?_
  refine R.gT rfl rfl ?_
  refine R.move ?_
  refine R.gT rfl rfl ?_
  refine R.callE1 ent40 (first_ _ hJ hg.ok.len) rfl (fun _ _ hb => Nat.lt_of_lt_of_le hb.1 (Nat.le_trans hS0 hEs.size)) ?_
  rintro v19 w4 hx4 rfl
  replace hG := hG.ext hx4
  replace hD := hD.ext hx4
  replace hJ := hJ.ext hx4
  replace hB5 := hB5.ext hx4
  replace hE := hE.ext hx4
  replace hEs := hEs.ext hx4
  refine R.gT rfl rfl ?_
  refine R.fld fa93_3 rfl ?_
  refine R.gT rfl rfl ?_
  refine R.loadB t3 hB5 rfl rfl rfl (hSA b5 hB5s.lt (trivial)) ?_
  refine R.gT rfl rfl ?_
  refine R.neq (b := false) rfl rfl (by simp) ?_
  refine R.pickF rfl ?_
  refine R.move ?_
  refine R.gT rfl rfl ?_
  refine R.move ?_
  refine R.gT rfl rfl ?_
  refine R.callE1 ent37 (lastN_ _ hJ hg.ok.len) rfl (fun _ _ hb => Nat.lt_of_lt_of_le hb.1 (Nat.le_trans hS0 hEs.size)) ?_
  rintro v26 w5 hx5 rfl
  replace hG := hG.ext hx5
  replace hD := hD.ext hx5
  replace hJ := hJ.ext hx5
  replace hB5 := hB5.ext hx5
  replace hE := hE.ext hx5
  replace hEs := hEs.ext hx5
  refine R.gT rfl rfl ?_
  refine R.loadA t93 hB5 rfl rfl rfl (hSA b5 hB5s.lt (trivial)) ?_
  refine R.gT rfl rfl ?_
  refine R.callE1 ent63 (rlastn_ _ hG hg) rfl (fun _ _ hb => Nat.lt_of_lt_of_le hb.1 (Nat.le_trans hS0 hEs.size)) ?_
  rintro v28 w6 hx6 rfl
  replace hG := hG.ext hx6
  replace hD := hD.ext hx6
  replace hJ := hJ.ext hx6
  replace hB5 := hB5.ext hx6
  replace hE := hE.ext hx6
  replace hEs := hEs.ext hx6
  refine R.gT rfl rfl ?_
  refine R.neq (b := false) rfl rfl (by simp) ?_
  refine R.pickF rfl ?_
  refine R.move ?_
  refine R.gT rfl rfl ?_
  refine R.move ?_
  refine R.gT rfl rfl ?_
  refine R.callE1 ent35 (room_ _ hD hJ hg.ok) rfl (fun _ _ hb => Nat.lt_of_lt_of_le hb.1 (Nat.le_trans hS0 hEs.size)) ?_
  rintro v33 w7 hx7 rfl
  replace hG := hG.ext hx7
  replace hD := hD.ext hx7
  replace hJ := hJ.ext hx7
  replace hB5 := hB5.ext hx7
  replace hE := hE.ext hx7
  replace hEs := hEs.ext hx7
  refine R.gT rfl rfl ?_
  refine R.loadA t93 hB5 rfl rfl rfl (hSA b5 hB5s.lt (trivial)) ?_
  refine R.gT rfl rfl ?_
  refine R.callE1 ent66 (rroom_ _ hG hg hn) rfl (fun _ _ hb => Nat.lt_of_lt_of_le hb.1 (Nat.le_trans hS0 hEs.size)) ?_
  rintro v35 w8 hx8 rfl
  replace hG := hG.ext hx8
  replace hD := hD.ext hx8
  replace hJ := hJ.ext hx8
  replace hB5 := hB5.ext hx8
  replace hE := hE.ext hx8
  replace hEs := hEs.ext hx8
  refine R.gT rfl rfl ?_
  refine R.neq (b := false) rfl rfl (by simp) ?_
  refine R.pickF rfl ?_
  refine R.move ?_
  refine R.gT rfl rfl ?_
  refine R.move ?_
  refine R.gT rfl rfl ?_
  refine R.callE1 ent34 (mended_ _ hJ) rfl (fun _ _ hb => Nat.lt_of_lt_of_le hb.1 (Nat.le_trans hS0 hEs.size)) ?_
  rintro v40 w9 hx9 rfl
  replace hG := hG.ext hx9
  replace hD := hD.ext hx9
  replace hJ := hJ.ext hx9
  replace hB5 := hB5.ext hx9
  replace hE := hE.ext hx9
  replace hEs := hEs.ext hx9
  refine R.gT rfl rfl ?_
  refine R.fld fa93_5 rfl ?_
  refine R.gT rfl rfl ?_
  refine R.loadB t3 hB5 rfl rfl rfl (hSA b5 hB5s.lt (trivial)) ?_
  refine R.gT rfl rfl ?_
  refine R.neq (b := false) rfl rfl (by simp) ?_
  refine R.pickF rfl ?_
  refine R.nil ?_
  refine E.condF rfl ?_
  refine E.skip ?_
  refine E.seq ?_
  refine E.seq ?_
  refine E.forget [(0, .pointer (some ⟨b901, 0, none⟩)), (5, .pointer (some ⟨b5, 0, none⟩))] ⟨rfl, rfl, trivial⟩ (fun e => ?_)
  refine E.regionP rfl ?_
  refine R.fld fa93_3 rfl ?_
  refine R.loadB t3 hB5 rfl rfl rfl trivial ?_
  refine R.subN (m := ((firstN j.live))) (n := 1) rfl rfl (by omega) (by omega) ?_
  refine R.assign ?_
  refine R.nil ?_
  refine E.block ?_
  refine E.loop (fun n e wr => ∃ (q : Nat), n = firstN j.live + j.live.length + 1 - q ∧ firstN j.live ≤ q + 1 ∧ q ≤ firstN j.live + j.live.length + 1 ∧ RJ wr rb rd vR vP uR d j ∧ DM wr b900 vb vd d ∧ JM wr b901 b900 vl us j ∧ Blk wr b5 93 #[rb, rd, .int .i64 (d.pw), .bool (d.tr), vR, vP, .int .i64 (((firstN j.live) : Nat) : Int), .int .i64 ((j.life : Nat) : Int), .int .i64 ((j.mended : Nat) : Int), .bool (j.down)] ∧ Ext w wr ∧ Has e [(0, .pointer (some ⟨b901, 0, none⟩)), (5, .pointer (some ⟨b5, 0, none⟩)), (7, .int .i64 ((q : Nat) : Int))]) (firstN j.live + j.live.length + 1 - (firstN j.live - 1)) ?_ ?_
  · exact ⟨(firstN j.live - 1), rfl, by omega, by omega, hG, hD, hJ, hB5, hE, rfl, rfl, rfl, trivial⟩
  · rintro n e wr ⟨q, hn, hq1, hq2, hG, hD, hJ, hB5, hE, hH⟩
    obtain ⟨e, rfl⟩ := hH.ex
    clear hH
    refine E.seq ?_
    refine E.seq ?_
    refine E.regionP rfl ?_
    refine R.move ?_
    refine R.fld fa93_3 rfl ?_
    refine R.loadB t3 hB5 rfl rfl rfl trivial ?_
    refine R.fld fa93_1 rfl ?_
    refine R.loadB t67 hB5 rfl rfl rfl trivial ?_
    refine R.len Try.underlying67 hG.rsl.row rfl ?_
    refine R.addN (m := ((firstN j.live))) (n := j.live.length) rfl rfl (by omega) ?_
    refine R.leq (b := decide ((((q : Nat) : Int)) ≤ (((((firstN j.live)) + j.live.length : Nat) : Int)))) rfl rfl rfl ?_
    refine R.nil ?_
    refine E.cond (b := decide ((((q : Nat) : Int)) ≤ (((((firstN j.live)) + j.live.length : Nat) : Int)))) rfl (fun hc55 => ?_) (fun hc55 => ?_)
    · replace hc55 := dT hc55
      refine E.skip ?_
      refine E.seq ?_
      refine E.block ?_
      refine E.seq ?_
      have hsz0 := hE.size
      have hG0 := hG
      have hJ0 := hJ
      rcases (show (q < firstN j.live ∨ lastN j.live < q) ∨ (firstN j.live ≤ q ∧ q ≤ lastN j.live) by omega) with hio | hio
      · refine E.regionP rfl ?_
        refine R.move ?_
        refine R.move ?_
        refine R.callE2 ent41 (get_out _ hJ hg.ok hg.len hio (by omega)) rfl rfl nofun ?_
        rintro v61 w10 hx10 rfl
        replace hG := hG.ext hx10
        replace hD := hD.ext hx10
        replace hJ := hJ.ext hx10
        replace hB5 := hB5.ext hx10
        replace hE := hE.ext hx10
        refine R.move ?_
        refine R.extract rfl rfl ?_
        refine R.extract rfl rfl ?_
        refine R.assign ?_
        refine R.assign ?_
        refine R.nil ?_
        refine E.seq ?_
        refine E.forget [(0, .pointer (some ⟨b901, 0, none⟩)), (5, .pointer (some ⟨b5, 0, none⟩)), (7, .int .i64 ((q : Nat) : Int)), (8, .slice none 0 0), (9, .bool (false))] ⟨rfl, rfl, rfl, rfl, rfl, trivial⟩ (fun e => ?_)
        refine E.regionP rfl ?_
        refine R.move ?_
        refine R.fld fa93_3 rfl ?_
        refine R.loadB t3 hB5 rfl rfl rfl trivial ?_
        refine R.sub (m := ((q : Nat) : Int)) (n := (((firstN j.live) : Nat) : Int)) rfl rfl (by omega) (by omega) ?_
        refine R.assign ?_
        refine R.nil ?_
        refine E.seq ?_
        refine E.seq ?_
        refine E.regionP rfl ?_
        refine R.move ?_
        refine R.lss (b := decide ((((q : Nat) : Int) - (((firstN j.live) : Nat) : Int)) < (((0 : Nat) : Int)))) rfl rfl rfl ?_
        refine R.move ?_
        have hg70 := Bool.eq_false_or_eq_true (decide ((((q : Nat) : Int) - (((firstN j.live) : Nat) : Int)) < (((0 : Nat) : Int))))
        rcases hg70 with hg70 | hg70
        · have hg70q := hg70
          replace hg70 := dT hg70
          refine R.gF rfl (congrArg Value.bool hg70q) rfl ?_
          refine R.gF rfl (congrArg Value.bool hg70q) rfl ?_
          refine R.gF rfl (congrArg Value.bool hg70q) rfl ?_
          refine R.gF rfl (congrArg Value.bool hg70q) rfl ?_
          refine R.gF rfl (congrArg Value.bool hg70q) rfl ?_
          refine R.pickT (congrArg Value.bool hg70q) ?_
          refine R.nil ?_
          refine E.condT rfl ?_
          refine E.seq ?_
          refine E.seq ?_
          refine E.forget [(0, .pointer (some ⟨b901, 0, none⟩)), (5, .pointer (some ⟨b5, 0, none⟩)), (7, .int .i64 ((q : Nat) : Int)), (8, .slice none 0 0), (9, .bool (false))] ⟨rfl, rfl, rfl, rfl, rfl, trivial⟩ (fun e => ?_)
          refine E.regionP rfl ?_
          refine R.move ?_
          refine R.move ?_
          refine R.gT rfl rfl ?_
          refine R.move ?_
          refine R.gT rfl rfl ?_
          refine R.lenV Try.underlying55 rfl ?_
          refine R.gT rfl rfl ?_
          refine R.neq (b := false) rfl rfl (by decide) ?_
          refine R.pickF rfl ?_
          refine R.nil ?_
          refine E.condF rfl ?_
          refine E.skip ?_
          refine E.exit ?_
          refine E.regionP rfl ?_
          refine R.move ?_
          refine R.addN (m := q) (n := 1) rfl rfl (by omega) ?_
          refine R.assign ?_
          refine R.nil ?_
          exact ⟨firstN j.live + j.live.length + 1 - (q + 1), by omega, q + 1, rfl, by omega, by omega, hG, hD, hJ, hB5, hE, rfl, rfl, rfl, trivial⟩
        · have hg70q := hg70
          replace hg70 := dF hg70
          refine R.gT rfl (congrArg Value.bool hg70q) ?_
          refine R.move ?_
          refine R.gT rfl (congrArg Value.bool hg70q) ?_
          refine R.fld fa93_1 rfl ?_
          refine R.gT rfl (congrArg Value.bool hg70q) ?_
          refine R.loadB t67 hB5 rfl rfl rfl trivial ?_
          refine R.gT rfl (congrArg Value.bool hg70q) ?_
          refine R.len Try.underlying67 hG.rsl.row rfl ?_
          refine R.gT rfl (congrArg Value.bool hg70q) ?_
          refine R.geq (b := decide ((((j.live.length : Nat) : Int)) ≤ (((q : Nat) : Int) - (((firstN j.live) : Nat) : Int)))) rfl rfl rfl ?_
          refine R.pickF (congrArg Value.bool hg70q) ?_
          refine R.nil ?_
          refine E.cond (b := decide ((((j.live.length : Nat) : Int)) ≤ (((q : Nat) : Int) - (((firstN j.live) : Nat) : Int)))) rfl (fun hc76 => ?_) (fun hc76 => ?_)
          · replace hc76 := dT hc76
            refine E.seq ?_
            refine E.seq ?_
            refine E.forget [(0, .pointer (some ⟨b901, 0, none⟩)), (5, .pointer (some ⟨b5, 0, none⟩)), (7, .int .i64 ((q : Nat) : Int)), (8, .slice none 0 0), (9, .bool (false))] ⟨rfl, rfl, rfl, rfl, rfl, trivial⟩ (fun e => ?_)
            refine E.regionP rfl ?_
            refine R.move ?_
            refine R.move ?_
            refine R.gT rfl rfl ?_
            refine R.move ?_
            refine R.gT rfl rfl ?_
            refine R.lenV Try.underlying55 rfl ?_
            refine R.gT rfl rfl ?_
            refine R.neq (b := false) rfl rfl (by decide) ?_
            refine R.pickF rfl ?_
            refine R.nil ?_
            refine E.condF rfl ?_
            refine E.skip ?_
            refine E.exit ?_
            refine E.regionP rfl ?_
            refine R.move ?_
            refine R.addN (m := q) (n := 1) rfl rfl (by omega) ?_
            refine R.assign ?_
            refine R.nil ?_
            exact ⟨firstN j.live + j.live.length + 1 - (q + 1), by omega, q + 1, rfl, by omega, by omega, hG, hD, hJ, hB5, hE, rfl, rfl, rfl, trivial⟩
          · replace hc76 := dF hc76
            exact absurd hc76 (by omega)
      · have hxl := hg.len (q - firstN j.live) (by omega)
        refine E.regionP rfl ?_
        refine R.move ?_
        refine R.move ?_
        refine R.callE2 ent41 (get_in _ hJ hg.ok hg.len hio (by omega)) rfl rfl nofun ?_
        rintro v61 w11 hx11 ⟨v61, rfl, hS61, hF61⟩
        replace hG := hG.ext hx11
        replace hD := hD.ext hx11
        replace hJ := hJ.ext hx11
        replace hB5 := hB5.ext hx11
        replace hE := hE.ext hx11
        refine R.move ?_
        refine R.extract rfl rfl ?_
        refine R.extract rfl rfl ?_
        refine R.assign ?_
        refine R.assign ?_
        refine R.nil ?_
        refine E.seq ?_
        refine E.forget [(0, .pointer (some ⟨b901, 0, none⟩)), (5, .pointer (some ⟨b5, 0, none⟩)), (7, .int .i64 ((q : Nat) : Int)), (8, v61), (9, .bool (true))] ⟨rfl, rfl, rfl, rfl, rfl, trivial⟩ (fun e => ?_)
        refine E.regionP rfl ?_
        refine R.move ?_
        refine R.fld fa93_3 rfl ?_
        refine R.loadB t3 hB5 rfl rfl rfl trivial ?_
        refine R.sub (m := ((q : Nat) : Int)) (n := (((firstN j.live) : Nat) : Int)) rfl rfl (by omega) (by omega) ?_
        refine R.assign ?_
        refine R.nil ?_
        refine E.seq ?_
        refine E.seq ?_
        refine E.regionP rfl ?_
        refine R.move ?_
        refine R.lss (b := decide ((((q : Nat) : Int) - (((firstN j.live) : Nat) : Int)) < (((0 : Nat) : Int)))) rfl rfl rfl ?_
        refine R.move ?_
        have hg70 := Bool.eq_false_or_eq_true (decide ((((q : Nat) : Int) - (((firstN j.live) : Nat) : Int)) < (((0 : Nat) : Int))))
        rcases hg70 with hg70 | hg70
        · have hg70q := hg70
          replace hg70 := dT hg70
          exact absurd hg70 (by omega)
        · have hg70q := hg70
          replace hg70 := dF hg70
          refine R.gT rfl (congrArg Value.bool hg70q) ?_
          refine R.move ?_
          refine R.gT rfl (congrArg Value.bool hg70q) ?_
          refine R.fld fa93_1 rfl ?_
          refine R.gT rfl (congrArg Value.bool hg70q) ?_
          refine R.loadB t67 hB5 rfl rfl rfl trivial ?_
          refine R.gT rfl (congrArg Value.bool hg70q) ?_
          refine R.len Try.underlying67 hG.rsl.row rfl ?_
          refine R.gT rfl (congrArg Value.bool hg70q) ?_
          refine R.geq (b := decide ((((j.live.length : Nat) : Int)) ≤ (((q : Nat) : Int) - (((firstN j.live) : Nat) : Int)))) rfl rfl rfl ?_
          refine R.pickF (congrArg Value.bool hg70q) ?_
          refine R.nil ?_
          refine E.cond (b := decide ((((j.live.length : Nat) : Int)) ≤ (((q : Nat) : Int) - (((firstN j.live) : Nat) : Int)))) rfl (fun hc76 => ?_) (fun hc76 => ?_)
          · replace hc76 := dT hc76
            exact absurd hc76 (by omega)
          · replace hc76 := dF hc76
            refine E.skip ?_
            refine E.seq ?_
            refine E.seq ?_
            refine E.forget [(0, .pointer (some ⟨b901, 0, none⟩)), (5, .pointer (some ⟨b5, 0, none⟩)), (7, .int .i64 ((q : Nat) : Int)), (8, v61), (9, .bool (true)), (10, .int .i64 (((q : Nat) : Int) - (((firstN j.live) : Nat) : Int)))] ⟨rfl, rfl, rfl, rfl, rfl, rfl, trivial⟩ (fun e => ?_)
            rw [show (((q : Nat) : Int)) - (((firstN j.live) : Nat) : Int) = ((q - firstN j.live : Nat) : Int) by omega]
            refine E.regionP rfl ?_
            refine R.move ?_
            refine R.not rfl ?_
            refine R.move ?_
            refine R.gT rfl rfl ?_
            refine R.move ?_
            refine R.gT rfl rfl ?_
            refine R.fld fa93_1 rfl ?_
            refine R.gT rfl rfl ?_
            refine R.loadB t67 hB5 rfl rfl rfl trivial ?_
            refine R.gT rfl rfl ?_
            refine R.move ?_
            refine R.gT rfl rfl ?_
            refine R.ix (m := ((q - firstN j.live))) Try.underlying67 t55 (by decide) hG.rsl.row rfl rfl (by omega) ?_
            refine R.gT rfl rfl ?_
            refine R.load (u := (uR.getD ((q - firstN j.live)) undef)) t55 hG.rsl.row rfl (hG.cell (i := (q - firstN j.live)) (by omega)) rfl (fun _ _ => trivial) ?_
            refine R.gT rfl rfl ?_
            refine R.callE2 ent56 (bytesT _ (RU8.of hS61) (RU8.of (hG.row (i := (q - firstN j.live)) (by omega))) (by omega)) rfl rfl nofun ?_
            rintro v92 w12 hx12 rfl
            replace hG := hG.ext hx12
            replace hD := hD.ext hx12
            replace hJ := hJ.ext hx12
            replace hS61 := hS61.ext hx12
            replace hB5 := hB5.ext hx12
            replace hE := hE.ext hx12
            refine R.gT rfl rfl ?_
            refine R.not rfl ?_
            refine R.pickF rfl ?_
            refine R.nil ?_
            refine E.condF rfl ?_
            refine E.skip ?_
            refine E.seq ?_
            refine E.seq ?_
            refine E.forget [(0, .pointer (some ⟨b901, 0, none⟩)), (5, .pointer (some ⟨b5, 0, none⟩)), (7, .int .i64 ((q : Nat) : Int)), (8, v61), (10, .int .i64 (((q - firstN j.live) : Nat) : Int))] ⟨rfl, rfl, rfl, rfl, rfl, trivial⟩ (fun e => ?_)
            refine E.regionP rfl ?_
            refine R.move ?_
            refine R.len Try.underlying55 hS61.row rfl ?_
            refine R.move ?_
            refine R.nil ?_
            refine E.block ?_
            refine E.loop (fun n e wr => ∃ (k : Nat) (ys : List Nat), n = (j.live.getD (q - firstN j.live) Rc0).dat.length - k ∧ k ≤ (j.live.getD (q - firstN j.live) Rc0).dat.length ∧ ys.length = (j.live.getD (q - firstN j.live) Rc0).dat.length ∧ RJ wr rb rd vR vP uR d j ∧ DM wr b900 vb vd d ∧ JM wr b901 b900 vl us j ∧ SU8s wr v61 ys ∧ Blk wr b5 93 #[rb, rd, .int .i64 (d.pw), .bool (d.tr), vR, vP, .int .i64 (((firstN j.live) : Nat) : Int), .int .i64 ((j.life : Nat) : Int), .int .i64 ((j.mended : Nat) : Int), .bool (j.down)] ∧ Ext w wr ∧ Has e [(0, .pointer (some ⟨b901, 0, none⟩)), (5, .pointer (some ⟨b5, 0, none⟩)), (7, .int .i64 ((q : Nat) : Int)), (8, v61), (10, .int .i64 (((q - firstN j.live) : Nat) : Int)), (96, .int .i64 ((((j.live.getD (q - firstN j.live) Rc0).dat).length : Nat) : Int)), (97, .int .i64 ((k : Nat) : Int))]) ((j.live.getD (q - firstN j.live) Rc0).dat.length) ?_ ?_
            · exact ⟨0, (j.live.getD (q - firstN j.live) Rc0).dat, rfl, by omega, rfl, hG, hD, hJ, hS61, hB5, hE, rfl, rfl, rfl, rfl, rfl, rfl, rfl, trivial⟩
            · rintro n e wr ⟨k, ys, rfl, hk, hyl, hG, hD, hJ, hS61, hB5, hE, hH⟩
              obtain ⟨e, rfl⟩ := hH.ex
              clear hH
              refine E.seq ?_
              refine E.regionP rfl ?_
              refine R.lss (b := decide ((((k : Nat) : Int)) < (((((j.live.getD (q - firstN j.live) Rc0).dat).length : Nat) : Int)))) rfl rfl rfl ?_
              refine R.nil ?_
              refine E.seq ?_
              refine E.cond (b := decide ((((k : Nat) : Int)) < (((((j.live.getD (q - firstN j.live) Rc0).dat).length : Nat) : Int)))) rfl (fun hc98 => ?_) (fun hc98 => ?_)
              · replace hc98 := dT hc98
                
                refine E.skip ?_
                refine E.seq ?_
                refine E.block ?_
                refine E.seq ?_
                refine E.regionP rfl ?_
                refine R.move ?_
                refine R.assign ?_
                refine R.nil ?_
                refine E.regionP rfl ?_
                refine R.move ?_
                refine R.move ?_
                refine R.ix (m := k) Try.underlying55 t5 (by decide) hS61.row rfl rfl (by omega) ?_
                refine R.load (u := .int .u8 ((ys.getD k 0 : Nat) : Int)) t5 hS61.row rfl (u8_getD (i := k) (by first | omega | decide)) rfl (fun _ _ => trivial) ?_
                refine R.addU8 (m := ys.getD k 0) (n := 1) rfl rfl ?_
                refine R.ix (m := k) Try.underlying55 t5 (by decide) hS61.row rfl rfl (by omega) ?_
                refine R.stE (j := k) t5 hS61 rfl rfl rfl (by first | omega | decide) nofun ?_
                intro w13 hU13 hs13 hN13
                replace hG := hG0.upG hG hU13 (fun x e => hF61 x e)
                replace hD := hD.upS hU13 hS61 (by decide)
                replace hJ := hJ0.upG hJ hU13 (fun x e => hF61 x e)
                replace hB5 := hB5.upS hU13 hS61 (by decide)
                replace hE := hE.app hU13 (hF61.mono hsz0)
                replace hS61 : Sl _ 5 1 v61 ((ys.set k (((ys.getD k 0) + 1) % 256))).length (u8s ((ys.set k (((ys.getD k 0) + 1) % 256)))) := (by rw [List.length_set, ← u8s_set]; exact hN13)
                refine R.nil ?_
                refine E.regionP rfl ?_
                refine R.addN (m := k) (n := 1) rfl rfl (by omega) ?_
                refine R.move ?_
                refine R.nil ?_
                exact ⟨(j.live.getD (q - firstN j.live) Rc0).dat.length - (k + 1), by omega, k + 1, _, rfl, by omega, (by rw [List.length_set]; exact hyl), hG, hD, hJ, hS61, hB5, hE, rfl, rfl, rfl, rfl, rfl, rfl, rfl, trivial⟩
              · replace hc98 := dF hc98
                refine E.exit ?_
                refine E.seq ?_
                refine E.regionP rfl ?_
                refine R.move ?_
                refine R.move ?_
                refine R.callE2 ent41 (get_in _ hJ hg.ok hg.len hio (by omega)) rfl rfl nofun ?_
                rintro v110 w14 hx14 ⟨v110, rfl, hS110, hF110⟩
                replace hG := hG.ext hx14
                replace hD := hD.ext hx14
                replace hJ := hJ.ext hx14
                replace hS61 := hS61.ext hx14
                replace hB5 := hB5.ext hx14
                replace hE := hE.ext hx14
                refine R.move ?_
                refine R.extract rfl rfl ?_
                refine R.extract rfl rfl ?_
                refine R.assign ?_
                refine R.assign ?_
                refine R.nil ?_
                refine E.seq ?_
                refine E.regionP rfl ?_
                refine R.move ?_
                refine R.not rfl ?_
                refine R.move ?_
                refine R.gT rfl rfl ?_
                refine R.move ?_
                refine R.gT rfl rfl ?_
                refine R.fld fa93_1 rfl ?_
                refine R.gT rfl rfl ?_
                refine R.loadB t67 hB5 rfl rfl rfl trivial ?_
                refine R.gT rfl rfl ?_
                refine R.move ?_
                refine R.gT rfl rfl ?_
                refine R.ix (m := ((q - firstN j.live))) Try.underlying67 t55 (by decide) hG.rsl.row rfl rfl (by omega) ?_
                refine R.gT rfl rfl ?_
                refine R.load (u := (uR.getD ((q - firstN j.live)) undef)) t55 hG.rsl.row rfl (hG.cell (i := (q - firstN j.live)) (by omega)) rfl (fun _ _ => trivial) ?_
                refine R.gT rfl rfl ?_
                refine R.callE2 ent56 (bytesT _ (RU8.of hS110) (RU8.of (hG.row (i := (q - firstN j.live)) (by omega))) (by omega)) rfl rfl nofun ?_
                rintro v122 w15 hx15 rfl
                replace hG := hG.ext hx15
                replace hD := hD.ext hx15
                replace hJ := hJ.ext hx15
                replace hS61 := hS61.ext hx15
                replace hS110 := hS110.ext hx15
                replace hB5 := hB5.ext hx15
                replace hE := hE.ext hx15
                refine R.gT rfl rfl ?_
                refine R.not rfl ?_
                refine R.pickF rfl ?_
                refine R.nil ?_
                refine E.condF rfl ?_
                refine E.skip ?_
                refine E.forget [(0, .pointer (some ⟨b901, 0, none⟩)), (5, .pointer (some ⟨b5, 0, none⟩)), (7, .int .i64 ((q : Nat) : Int))] ⟨rfl, rfl, rfl, trivial⟩ (fun e => ?_)
                refine E.regionP rfl ?_
                refine R.move ?_
                refine R.addN (m := q) (n := 1) rfl rfl (by omega) ?_
                refine R.assign ?_
                refine R.nil ?_
                exact ⟨firstN j.live + j.live.length + 1 - (q + 1), by omega, q + 1, rfl, by omega, by omega, hG, hD, hJ, hB5, hE, rfl, rfl, rfl, trivial⟩
    · replace hc55 := dF hc55
      refine E.exit ?_
      refine E.seq ?_
      refine E.forget [] trivial (fun e => ?_)
      refine E.regionP rfl ?_
      refine R.assign ?_
      refine R.nil ?_
      refine E.ret ?_
      refine ret1 (.bool (true)) rfl rfl ⟨_, rfl, ?_⟩
      exact ⟨hE, rfl⟩
end Go.Proofs.Ytlplogplicgfiaa
