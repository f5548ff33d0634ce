import Derived.Test.YtlplogplicgfiaaZ5JV
namespace Go.Proofs.Ytlplogplicgfiaa
open Go Go.RowKit
theorem u8_getD {xs : List Nat} {i : Nat} (hi : i < xs.length) : (u8s xs)[i * 1]? = some (.int .u8 ((xs.getD i 0 : Nat) : Int)) := by
  rw [Nat.mul_one, u8_at hi, List.getD_eq_getElem?_getD, List.getElem?_eq_getElem hi]; rfl
theorem okL {bl : List (List Nat)} (h : ∀ b ∈ bl, BlockP b) {i : Nat} (hi : i < bl.length) : BlockP (bl.getD i []) := by
  rw [List.getD_eq_getElem?_getD, List.getElem?_eq_getElem hi]; exact h _ (List.getElem_mem hi)
theorem blocksC_app : ∀ (bl cl : List (List Nat)), blocksC (bl ++ cl) = blocksC bl ++ blocksC cl := fun bl cl => by simp [blocksC]
theorem blocksC_one {bl : List (List Nat)} : ∀ u ∈ blocksC bl, u.oneCell' = true := fun u hu => by
  obtain ⟨b, _, hb⟩ := List.mem_flatMap.1 hu
  exact u8s_one u hb
theorem ne_app {w w' : World} {v v' : Value} {n c : Nat} (hd : (vblk v' = vblk v ∧ n ≤ vcap v ∧ vcap v' = vcap v) ∨ (∃ b, vblk v' = some b ∧ w.heap.size ≤ b ∧ Ext w w')) (h1 : vblk v ≠ some c) (h2 : c < w.heap.size) : vblk v' ≠ some c := by
  rcases hd with ⟨e, _⟩ | ⟨b, e, hb, _⟩
  · rw [e]; exact h1
  · rw [e]; intro h; have := Option.some.inj h; omega
theorem TA4 {w : World} {v : Value} {xs ys : List Bool} (h : Sl w 4 1 v (xs.length + ys.length) (bools xs ++ bools ys)) : Sl w 4 1 v (xs ++ ys).length (bools (xs ++ ys)) := by
  rw [List.length_append, show bools (xs ++ ys) = bools xs ++ bools ys by simp]; exact h
theorem TA5 {w : World} {v : Value} {xs ys : List Nat} (h : Sl w 5 1 v (xs.length + ys.length) (u8s xs ++ u8s ys)) : Sl w 5 1 v (xs ++ ys).length (u8s (xs ++ ys)) := SU8s.app h
theorem TA27 {w : World} {v : Value} {el : TypeId} {xs ys : List (List Nat)} (h : Sl w el 64 v (xs.length + ys.length) (blocksC xs ++ blocksC ys)) : Sl w el 64 v (xs ++ ys).length (blocksC (xs ++ ys)) := by
  rw [List.length_append, blocksC_app]; exact h
theorem u8s_set (xs : List Nat) (i : Nat) (b : Nat) : (u8s xs).set i (.int .u8 ((b : Nat) : Int)) = u8s (xs.set i b) := by simp [u8s, List.map_set]
theorem build26_0 (w : World) : (Instr.build 26 #[]).run Try.prog w = .ok (.agg (blkV zeroB)) w := by
  rw [zeroV]
  have e : (Value.agg (Array.replicate 64 (.int .u8 0))).cells = Array.replicate 64 (.int .u8 0) := rfl
  simp [Instr.build, t26.zero, underlying, Try.underlying26, t5.sizeOf, Instr.fill, e]
structure RD (w : World) (vb vd : Value) (d : Dk) : Prop where
  bls : Sl w 26 64 vb d.bl.length (blocksC d.bl)
  bds : Sl w 4 1 vd d.bad.length (bools d.bad)
  ok : ∀ b ∈ d.bl, BlockP b
section
variable {w w' : World} {vb vd : Value} {d : Dk}
theorem RD.up {X : Nat → Prop} (h : RD w vb vd d) (u : Upd X w w') (h2 : ∀ b, vblk vb = some b → ¬ X b) (h3 : ∀ b, vblk vd = some b → ¬ X b) : RD w' vb vd d := ⟨h.bls.up u h2, h.bds.up u h3, h.ok⟩
theorem RD.ext (h : RD w vb vd d) (u : Ext w w') : RD w' vb vd d := h.up u (fun _ _ => id) (fun _ _ => id)
theorem RD.upT {b : Nat} {cs : Array Value} {ty : TypeId} (h : RD w vb vd d) (u : Upd (one b) w w') (hB : Blk w b ty cs) (hne : 26 ≠ ty ∧ 4 ≠ ty) : RD w' vb vd d := ⟨h.bls.upT u hB hne.1, h.bds.upT u hB hne.2, h.ok⟩
theorem RD.upS {x : Value} {ty' k' m : Nat} {ds : List Value} (h : RD w vb vd d) (u : Upd (fun b => vblk x = some b) w w') (hx : Sl w ty' k' x m ds) (hne : 26 ≠ ty' ∧ 4 ≠ ty') : RD w' vb vd d := ⟨h.bls.upS u hx hne.1, h.bds.upS u hx hne.2, h.ok⟩
theorem RD.new {b : Nat} (h : RD w vb vd d) (hb : w.heap.size ≤ b) : ¬ (vblk vb = some b ∨ vblk vd = some b) := by
  rintro (e | e)
  · have := h.bls.lt b e; omega
  · have := h.bds.lt b e; omega
theorem RD.upN {b : Nat} (h : RD w vb vd d) (u : Upd (one b) w w') (hb : ¬ (vblk vb = some b ∨ vblk vd = some b)) : RD w' vb vd d :=
  h.up u (fun x e e1 => hb (.inl (by have e2 : x = b := e1; exact e2 ▸ e))) (fun x e e1 => hb (.inr (by have e2 : x = b := e1; exact e2 ▸ e)))
end
theorem Dk.n_ne {d : Dk} : d.n ≠ 0 ↔ d.bl.length = d.bad.length ∧ d.bl.length % 2 = 0 ∧ 8 ≤ d.bl.length ∧ d.bl.length ≤ 2000 := by
  unfold Dk.n; split <;> omega
theorem right_ (w : World) {rb rd : Value} {r : Dk} (hR : RD w rb rd r) (hbl : r.bl.length ≤ 1000000) : Calls Try.prog 44 #[.agg #[rb, rd, .int .i64 r.pw, .bool r.tr]] w (Ret fun x w' => Ext w w' ∧ x = .bool (decide (r.n ≠ 0))) := by
  refine calls_E (args := [.agg #[rb, rd, .int .i64 (r.pw), .bool (r.tr)]]) 25 Try.func44 rfl rfl (by simp) ?_
  have hE : Ext w w := Upd.refl w
  refine E.seq ?_
  refine E.regionP rfl ?_
  refine R.box rfl nofun ?_
  intro b1 w1 hb1 hx1 hB1
  replace hb1 := Nat.le_trans hE.size hb1
  replace hR := hR.ext hx1
  replace hE := hE.ext hx1
  replace hB1 : Blk _ b1 31 #[rb, rd, .int .i64 (r.pw), .bool (r.tr)] := hB1
  refine R.assign ?_
  refine R.nil ?_
  refine E.seq ?_
  refine E.regionP rfl ?_
  refine R.fld fa31_0 rfl ?_
  refine R.loadB t29 hB1 rfl rfl rfl trivial ?_
  refine R.len Try.underlying29 hR.bls.row rfl ?_
  refine R.assign ?_
  refine R.nil ?_
  refine E.seq ?_
  refine E.regionP rfl ?_
  refine R.move ?_
  refine R.fld fa31_1 rfl ?_
  refine R.loadB t23 hB1 rfl rfl rfl trivial ?_
  refine R.len Try.underlying23 hR.bds.row rfl ?_
  refine R.eql (b := decide ((((r.bl.length : Nat) : Int)) = (((r.bad.length : Nat) : Int)))) rfl rfl rfl ?_
  refine R.move ?_
  have hg12 := Bool.eq_false_or_eq_true (decide ((((r.bl.length : Nat) : Int)) = (((r.bad.length : Nat) : Int))))
  rcases hg12 with hg12 | hg12
  · have hg12q := hg12
    replace hg12 := dT hg12
    refine R.gT rfl (congrArg Value.bool hg12q) ?_
    refine R.move ?_
    refine R.gT rfl (congrArg Value.bool hg12q) ?_
    refine R.remN (m := r.bl.length) (n := 2) rfl rfl (by omega) ?_
    refine R.gT rfl (congrArg Value.bool hg12q) ?_
    refine R.eql (b := decide ((((r.bl.length % 2 : Nat) : Int)) = (((0 : Nat) : Int)))) rfl rfl rfl ?_
    refine R.pickT (congrArg Value.bool hg12q) ?_
    refine R.move ?_
    have hg17 := Bool.eq_false_or_eq_true (decide ((((r.bl.length % 2 : Nat) : Int)) = (((0 : Nat) : Int))))
    rcases hg17 with hg17 | hg17
    · have hg17q := hg17
      replace hg17 := dT hg17
      refine R.gT rfl (congrArg Value.bool hg17q) ?_
      refine R.move ?_
      refine R.gT rfl (congrArg Value.bool hg17q) ?_
      refine R.geq (b := decide ((((8 : Nat) : Int)) ≤ (((r.bl.length : Nat) : Int)))) rfl rfl rfl ?_
      refine R.pickT (congrArg Value.bool hg17q) ?_
      refine R.move ?_
      have hg21 := Bool.eq_false_or_eq_true (decide ((((8 : Nat) : Int)) ≤ (((r.bl.length : Nat) : Int))))
      rcases hg21 with hg21 | hg21
      · have hg21q := hg21
        replace hg21 := dT hg21
        refine R.gT rfl (congrArg Value.bool hg21q) ?_
        refine R.move ?_
        refine R.gT rfl (congrArg Value.bool hg21q) ?_
        refine R.leq (b := decide ((((r.bl.length : Nat) : Int)) ≤ (((2000 : Nat) : Int)))) rfl rfl rfl ?_
        refine R.pickT (congrArg Value.bool hg21q) ?_
        refine R.assign ?_
        refine R.nil ?_
        refine E.ret ?_
        refine ret1 (.bool (decide ((((r.bl.length : Nat) : Int)) ≤ (((2000 : Nat) : Int))))) rfl rfl ⟨_, rfl, ?_⟩
        refine ⟨hE, ?_⟩
        congr 1
        exact (decide_eq_decide.2 (Dk.n_ne.trans (by omega))).symm
      · have hg21q := hg21
        replace hg21 := dF hg21
        refine R.gF rfl (congrArg Value.bool hg21q) rfl ?_
        refine R.gF rfl (congrArg Value.bool hg21q) rfl ?_
        refine R.pickF (congrArg Value.bool hg21q) ?_
        refine R.assign ?_
        refine R.nil ?_
        refine E.ret ?_
        refine ret1 (.bool (false)) rfl rfl ⟨_, rfl, ?_⟩
        refine ⟨hE, ?_⟩
        rw [decide_eq_false (fun h => by have := Dk.n_ne.1 h; omega)]
    · have hg17q := hg17
      replace hg17 := dF hg17
      refine R.gF rfl (congrArg Value.bool hg17q) rfl ?_
      refine R.gF rfl (congrArg Value.bool hg17q) rfl ?_
      refine R.pickF (congrArg Value.bool hg17q) ?_
      refine R.move ?_
      refine R.gF rfl rfl rfl ?_
      refine R.gF rfl rfl rfl ?_
      refine R.pickF rfl ?_
      refine R.assign ?_
      refine R.nil ?_
      refine E.ret ?_
      refine ret1 (.bool (false)) rfl rfl ⟨_, rfl, ?_⟩
      refine ⟨hE, ?_⟩
      rw [decide_eq_false (fun h => by have := Dk.n_ne.1 h; omega)]
  · have hg12q := hg12
    replace hg12 := dF hg12
    refine R.gF rfl (congrArg Value.bool hg12q) rfl ?_
    refine R.gF rfl (congrArg Value.bool hg12q) rfl ?_
    refine R.gF rfl (congrArg Value.bool hg12q) rfl ?_
    refine R.pickF (congrArg Value.bool hg12q) ?_
    refine R.move ?_
    refine R.gF rfl rfl rfl ?_
    refine R.gF rfl rfl rfl ?_
    refine R.pickF rfl ?_
    refine R.move ?_
    refine R.gF rfl rfl rfl ?_
    refine R.gF rfl rfl rfl ?_
    refine R.pickF rfl ?_
    refine R.assign ?_
    refine R.nil ?_
    refine E.ret ?_
    refine ret1 (.bool (false)) rfl rfl ⟨_, rfl, ?_⟩
    refine ⟨hE, ?_⟩
    rw [decide_eq_false (fun h => by have := Dk.n_ne.1 h; omega)]
theorem rreadP (w : World) {rb rd : Value} {r : Dk} {k : Nat} (hR : RD w rb rd r) (hbl : r.bl.length ≤ 1000000) : Calls Try.prog 16 #[.agg #[rb, rd, .int .i64 r.pw, .bool r.tr], .int .i64 ((k : Nat) : Int)] w (Ret fun x w' => Ext w w' ∧ x = .tuple #[.agg (blkV (blkO (r.read ((k : Nat) : Int)))), .bool (r.read ((k : Nat) : Int)).isSome]) := by
  have hnl := r.n_le
  have hnn := @Dk.n_ne r
  have hnp := @Dk.n_pos r
  refine calls_E (args := [.agg #[rb, rd, .int .i64 (r.pw), .bool (r.tr)], .int .i64 ((k : Nat) : Int)]) 33 Try.func16 rfl rfl (by simp) ?_
  have hE : Ext w w := Upd.refl w
  refine E.seq ?_
  refine E.regionP rfl ?_
  refine R.box rfl nofun ?_
  intro b2 w1 hb2 hx1 hB2
  replace hb2 := Nat.le_trans hE.size hb2
  replace hR := hR.ext hx1
  replace hE := hE.ext hx1
  replace hB2 : Blk _ b2 31 #[rb, rd, .int .i64 (r.pw), .bool (r.tr)] := hB2
  refine R.alloc t26 nofun ?_
  intro b4 w2 hb4 hx2 hB4
  have hn_hR_4 := hR.new hb4
  replace hb4 := Nat.le_trans hE.size hb4
  replace hR := hR.ext hx2
  replace hB2 := hB2.ext hx2
  replace hE := hE.ext hx2
  replace hB4 : Blk _ b4 26 (Array.replicate 64 (.int .u8 0)) := hB4
  rw [← zeroV] at hB4
  refine R.assign ?_
  refine R.nil ?_
  refine E.seq ?_
  refine E.seq ?_
  refine E.regionP rfl ?_
  refine R.loadA t31 hB2 rfl rfl rfl trivial ?_
  refine R.callE1 ent44 (right_ _ hR (by omega)) rfl nofun ?_
  rintro v7 w3 hx3 rfl
  replace hR := hR.ext hx3
  replace hB2 := hB2.ext hx3
  replace hB4 := hB4.ext hx3
  replace hE := hE.ext hx3
  refine R.not rfl ?_
  refine R.move ?_
  have hg9 := Bool.eq_false_or_eq_true (!(decide (r.n ≠ 0)))
  rcases hg9 with hg9 | hg9
  · have hg9q := hg9
    replace hg9 := nT hg9
    refine R.gF rfl (congrArg Value.bool hg9q) rfl ?_
    refine R.gF rfl (congrArg Value.bool hg9q) rfl ?_
    refine R.pickT (congrArg Value.bool hg9q) ?_
    refine R.move ?_
    refine R.gF rfl rfl rfl ?_
    refine R.gF rfl rfl rfl ?_
    refine R.gF rfl rfl rfl ?_
    refine R.gF rfl rfl rfl ?_
    refine R.gF rfl rfl rfl ?_
    refine R.pickT rfl ?_
    refine R.move ?_
    refine R.gF rfl rfl rfl ?_
    refine R.gF rfl rfl rfl ?_
    refine R.gF rfl rfl rfl ?_
    refine R.gF rfl rfl rfl ?_
    refine R.gF rfl rfl rfl ?_
    refine R.pickT rfl ?_
    refine R.nil ?_
    refine E.condT rfl ?_
    refine E.seq ?_
    refine E.forget [(4, .pointer (some ⟨b4, 0, none⟩))] ⟨rfl, trivial⟩ (fun e => ?_)
    refine E.regionP rfl ?_
    refine R.build build26_0 rfl ?_
    refine R.storeA t26 hB4 rfl rfl (blkV_size zeroB_ok.1) (blkV_size zeroB_ok.1) blkV_ones nofun ?_
    intro w4 hU4 hs4 hN4
    replace hR := hR.upN hU4 hn_hR_4
    replace hB2 := hB2.upT hU4 hB4 (by decide)
    replace hE := hE.own hU4 hb4
    replace hB4 : Blk _ b4 26 (blkV zeroB) := hN4
    refine R.assign ?_
    refine R.nil ?_
    refine E.ret ?_
    refine retA1 (.bool (false)) t26 hB4 (blkV_size zeroB_ok.1) rfl rfl rfl ⟨_, rfl, ?_⟩
    refine ⟨hE, ?_⟩
    rw [Dk.read_out (by omega)]; rfl
  · have hg9q := hg9
    replace hg9 := nF hg9
    refine R.gT rfl (congrArg Value.bool hg9q) ?_
    refine R.move ?_
    refine R.gT rfl (congrArg Value.bool hg9q) ?_
    refine R.lss (b := false) rfl rfl (decide_eq_false (by omega)) ?_
    refine R.pickF (congrArg Value.bool hg9q) ?_
    refine R.move ?_
    refine R.gT rfl rfl ?_
    refine R.move ?_
    refine R.gT rfl rfl ?_
    refine R.fld fa31_0 rfl ?_
    refine R.gT rfl rfl ?_
    refine R.loadB t29 hB2 rfl rfl rfl trivial ?_
    refine R.gT rfl rfl ?_
    refine R.len Try.underlying29 hR.bls.row rfl ?_
    refine R.gT rfl rfl ?_
    refine R.geq (b := decide ((((r.bl.length : Nat) : Int)) ≤ (((k : Nat) : Int)))) rfl rfl rfl ?_
    refine R.pickF rfl ?_
    refine R.move ?_
    have hg20 := Bool.eq_false_or_eq_true (decide ((((r.bl.length : Nat) : Int)) ≤ (((k : Nat) : Int))))
    rcases hg20 with hg20 | hg20
    · have hg20q := hg20
      replace hg20 := dT hg20
      refine R.gF rfl (congrArg Value.bool hg20q) rfl ?_
      refine R.gF rfl (congrArg Value.bool hg20q) rfl ?_
      refine R.gF rfl (congrArg Value.bool hg20q) rfl ?_
      refine R.gF rfl (congrArg Value.bool hg20q) rfl ?_
      refine R.gF rfl (congrArg Value.bool hg20q) rfl ?_
      refine R.pickT (congrArg Value.bool hg20q) ?_
      refine R.nil ?_
      refine E.condT rfl ?_
      refine E.seq ?_
      refine E.forget [(4, .pointer (some ⟨b4, 0, none⟩))] ⟨rfl, trivial⟩ (fun e => ?_)
      refine E.regionP rfl ?_
      refine R.build build26_0 rfl ?_
      refine R.storeA t26 hB4 rfl rfl (blkV_size zeroB_ok.1) (blkV_size zeroB_ok.1) blkV_ones nofun ?_
      intro w5 hU5 hs5 hN5
      replace hR := hR.upN hU5 hn_hR_4
      replace hB2 := hB2.upT hU5 hB4 (by decide)
      replace hE := hE.own hU5 hb4
      replace hB4 : Blk _ b4 26 (blkV zeroB) := hN5
      refine R.assign ?_
      refine R.nil ?_
      refine E.ret ?_
      refine retA1 (.bool (false)) t26 hB4 (blkV_size zeroB_ok.1) rfl rfl rfl ⟨_, rfl, ?_⟩
      refine ⟨hE, ?_⟩
      rw [Dk.read_out (by omega)]; rfl
    · have hg20q := hg20
      replace hg20 := dF hg20
      refine R.gT rfl (congrArg Value.bool hg20q) ?_
      refine R.fld fa31_1 rfl ?_
      refine R.gT rfl (congrArg Value.bool hg20q) ?_
      refine R.loadB t23 hB2 rfl rfl rfl trivial ?_
      refine R.gT rfl (congrArg Value.bool hg20q) ?_
      refine R.move ?_
      refine R.gT rfl (congrArg Value.bool hg20q) ?_
      refine R.ix (m := k) Try.underlying23 t4 (by decide) hR.bds.row rfl rfl (by omega) ?_
      refine R.gT rfl (congrArg Value.bool hg20q) ?_
      refine R.load (u := .bool (r.bad.getD k true)) t4 hR.bds.row rfl (bools_getD (i := k) (by first | omega | decide)) rfl (fun _ _ => trivial) ?_
      refine R.pickF (congrArg Value.bool hg20q) ?_
      refine R.nil ?_
      refine E.cond (b := r.bad.getD k true) rfl (fun hc26 => ?_) (fun hc26 => ?_)
      · refine E.seq ?_
        refine E.forget [(4, .pointer (some ⟨b4, 0, none⟩))] ⟨rfl, trivial⟩ (fun e => ?_)
        refine E.regionP rfl ?_
        refine R.build build26_0 rfl ?_
        refine R.storeA t26 hB4 rfl rfl (blkV_size zeroB_ok.1) (blkV_size zeroB_ok.1) blkV_ones nofun ?_
        intro w6 hU6 hs6 hN6
        replace hR := hR.upN hU6 hn_hR_4
        replace hB2 := hB2.upT hU6 hB4 (by decide)
        replace hE := hE.own hU6 hb4
        replace hB4 : Blk _ b4 26 (blkV zeroB) := hN6
        refine R.assign ?_
        refine R.nil ?_
        refine E.ret ?_
        refine retA1 (.bool (false)) t26 hB4 (blkV_size zeroB_ok.1) rfl rfl rfl ⟨_, rfl, ?_⟩
        refine ⟨hE, ?_⟩
        rw [Dk.read_bad (by omega) (by omega) (by have h9 := hc26; rw [List.getD_eq_getElem?_getD, List.getElem?_eq_getElem (by omega)] at h9; exact h9)]; rfl
      · refine E.skip ?_
        refine E.seq ?_
        refine E.forget [(1, .int .i64 ((k : Nat) : Int)), (2, .pointer (some ⟨b2, 0, none⟩)), (4, .pointer (some ⟨b4, 0, none⟩))] ⟨rfl, rfl, rfl, trivial⟩ (fun e => ?_)
        refine E.regionP rfl ?_
        refine R.fld fa31_0 rfl ?_
        refine R.loadB t29 hB2 rfl rfl rfl trivial ?_
        refine R.move ?_
        refine R.ix (m := k) Try.underlying29 t26 (by decide) hR.bls.row rfl rfl (by omega) ?_
        refine R.loadE t26 (by decide) hR.bls.row rfl (blocksC_takeD hR.ok (i := k) (by first | omega | decide)) (by rw [List.length_map]; exact ((okL hR.ok (i := k) (by first | omega | decide))).1) rfl (fun _ _ => trivial) ?_
        refine R.storeA t26 hB4 rfl rfl (blkV_size zeroB_ok.1) (blkV_size (okL hR.ok (i := k) (by first | omega | decide)).1) blkV_ones nofun ?_
        intro w7 hU7 hs7 hN7
        replace hR := hR.upN hU7 hn_hR_4
        replace hB2 := hB2.upT hU7 hB4 (by decide)
        replace hE := hE.own hU7 hb4
        replace hB4 : Blk _ b4 26 (blkV ((r.bl.getD k []))) := hN7
        refine R.assign ?_
        refine R.nil ?_
        refine E.ret ?_
        refine retA1 (.bool (true)) t26 hB4 (blkV_size (okL hR.ok (i := k) (by first | omega | decide)).1) rfl rfl rfl ⟨_, rfl, ?_⟩
        refine ⟨hE, ?_⟩
        rw [Dk.read_ok (by omega) (by omega) (by have h9 := hc26; rw [List.getD_eq_getElem?_getD, List.getElem?_eq_getElem (by omega)] at h9; exact h9) (by omega)]
        have e9 : r.bl.getD k [] = r.bl[k] := by rw [List.getD_eq_getElem?_getD, List.getElem?_eq_getElem (by omega)]; rfl
        rw [e9]; rfl
theorem rreadN (w : World) {rb rd : Value} {r : Dk} {i : Int} (hR : RD w rb rd r) (hbl : r.bl.length ≤ 1000000) (hi : i < 0) : Calls Try.prog 16 #[.agg #[rb, rd, .int .i64 r.pw, .bool r.tr], .int .i64 i] w (Ret fun x w' => Ext w w' ∧ x = .tuple #[.agg (blkV (blkO (r.read i))), .bool (r.read i).isSome]) := by
  refine calls_E (args := [.agg #[rb, rd, .int .i64 (r.pw), .bool (r.tr)], .int .i64 (i)]) 33 Try.func16 rfl rfl (by simp) ?_
  have hE : Ext w w := Upd.refl w
  refine E.seq ?_
  refine E.regionP rfl ?_
  refine R.box rfl nofun ?_
  intro b2 w1 hb2 hx1 hB2
  replace hb2 := Nat.le_trans hE.size hb2
  replace hR := hR.ext hx1
  replace hE := hE.ext hx1
  replace hB2 : Blk _ b2 31 #[rb, rd, .int .i64 (r.pw), .bool (r.tr)] := hB2
  refine R.alloc t26 nofun ?_
  intro b4 w2 hb4 hx2 hB4
  have hn_hR_4 := hR.new hb4
  replace hb4 := Nat.le_trans hE.size hb4
  replace hR := hR.ext hx2
  replace hB2 := hB2.ext hx2
  replace hE := hE.ext hx2
  replace hB4 : Blk _ b4 26 (Array.replicate 64 (.int .u8 0)) := hB4
  rw [← zeroV] at hB4
  refine R.assign ?_
  refine R.nil ?_
  refine E.seq ?_
  refine E.seq ?_
  refine E.regionP rfl ?_
  refine R.loadA t31 hB2 rfl rfl rfl trivial ?_
  refine R.callE1 ent44 (right_ _ hR (by omega)) rfl nofun ?_
  rintro v7 w3 hx3 rfl
  replace hR := hR.ext hx3
  replace hB2 := hB2.ext hx3
  replace hB4 := hB4.ext hx3
  replace hE := hE.ext hx3
  refine R.not rfl ?_
  refine R.move ?_
  have hg9 := Bool.eq_false_or_eq_true (!(decide (r.n ≠ 0)))
  rcases hg9 with hg9 | hg9
  · have hg9q := hg9
    replace hg9 := nT hg9
    refine R.gF rfl (congrArg Value.bool hg9q) rfl ?_
    refine R.gF rfl (congrArg Value.bool hg9q) rfl ?_
    refine R.pickT (congrArg Value.bool hg9q) ?_
    refine R.move ?_
    refine R.gF rfl rfl rfl ?_
    refine R.gF rfl rfl rfl ?_
    refine R.gF rfl rfl rfl ?_
    refine R.gF rfl rfl rfl ?_
    refine R.gF rfl rfl rfl ?_
    refine R.pickT rfl ?_
    refine R.move ?_
    refine R.gF rfl rfl rfl ?_
    refine R.gF rfl rfl rfl ?_
    refine R.gF rfl rfl rfl ?_
    refine R.gF rfl rfl rfl ?_
    refine R.gF rfl rfl rfl ?_
    refine R.pickT rfl ?_
    refine R.nil ?_
    refine E.condT rfl ?_
    refine E.seq ?_
    refine E.forget [(4, .pointer (some ⟨b4, 0, none⟩))] ⟨rfl, trivial⟩ (fun e => ?_)
    refine E.regionP rfl ?_
    refine R.build build26_0 rfl ?_
    refine R.storeA t26 hB4 rfl rfl (blkV_size zeroB_ok.1) (blkV_size zeroB_ok.1) blkV_ones nofun ?_
    intro w4 hU4 hs4 hN4
    replace hR := hR.upN hU4 hn_hR_4
    replace hB2 := hB2.upT hU4 hB4 (by decide)
    replace hE := hE.own hU4 hb4
    replace hB4 : Blk _ b4 26 (blkV zeroB) := hN4
    refine R.assign ?_
    refine R.nil ?_
    refine E.ret ?_
    refine retA1 (.bool (false)) t26 hB4 (blkV_size zeroB_ok.1) rfl rfl rfl ⟨_, rfl, ?_⟩
    refine ⟨hE, ?_⟩
    rw [Dk.read_out (by omega)]; rfl
  · have hg9q := hg9
    replace hg9 := nF hg9
    refine R.gT rfl (congrArg Value.bool hg9q) ?_
    refine R.move ?_
    refine R.gT rfl (congrArg Value.bool hg9q) ?_
    refine R.lss (b := true) rfl rfl (decide_eq_true (by omega)) ?_
    refine R.pickF (congrArg Value.bool hg9q) ?_
    refine R.move ?_
    refine R.gF rfl rfl rfl ?_
    refine R.gF rfl rfl rfl ?_
    refine R.gF rfl rfl rfl ?_
    refine R.gF rfl rfl rfl ?_
    refine R.gF rfl rfl rfl ?_
    refine R.pickT rfl ?_
    refine R.move ?_
    refine R.gF rfl rfl rfl ?_
    refine R.gF rfl rfl rfl ?_
    refine R.gF rfl rfl rfl ?_
    refine R.gF rfl rfl rfl ?_
    refine R.gF rfl rfl rfl ?_
    refine R.pickT rfl ?_
    refine R.nil ?_
    refine E.condT rfl ?_
    refine E.seq ?_
    refine E.forget [(4, .pointer (some ⟨b4, 0, none⟩))] ⟨rfl, trivial⟩ (fun e => ?_)
    refine E.regionP rfl ?_
    refine R.build build26_0 rfl ?_
    refine R.storeA t26 hB4 rfl rfl (blkV_size zeroB_ok.1) (blkV_size zeroB_ok.1) blkV_ones nofun ?_
    intro w5 hU5 hs5 hN5
    replace hR := hR.upN hU5 hn_hR_4
    replace hB2 := hB2.upT hU5 hB4 (by decide)
    replace hE := hE.own hU5 hb4
    replace hB4 : Blk _ b4 26 (blkV zeroB) := hN5
    refine R.assign ?_
    refine R.nil ?_
    refine E.ret ?_
    refine retA1 (.bool (false)) t26 hB4 (blkV_size zeroB_ok.1) rfl rfl rfl ⟨_, rfl, ?_⟩
    refine ⟨hE, ?_⟩
    rw [Dk.read_out (by omega)]; rfl
theorem rread_ (w : World) {rb rd : Value} {r : Dk} {i : Int} (hR : RD w rb rd r) (hbl : r.bl.length ≤ 1000000) : Calls Try.prog 16 #[.agg #[rb, rd, .int .i64 r.pw, .bool r.tr], .int .i64 i] w (Ret fun x w' => Ext w w' ∧ x = .tuple #[.agg (blkV (blkO (r.read i))), .bool (r.read i).isSome]) := by
  rcases (show i < 0 ∨ 0 ≤ i by omega) with h | h
  · exact rreadN w hR hbl h
  · obtain ⟨k, rfl⟩ : ∃ k : Nat, i = (k : Int) := ⟨i.toNat, by omega⟩
    exact rreadP w hR hbl
theorem rwriteP (w : World) {rb rd : Value} {r : Dk} {k : Nat} {b : List Nat} (hR : RD w rb rd r) (hbl : r.bl.length ≤ 1000000) (hb : BlockP b) (hpw : r.pw ≤ 9223372036854775807) (hpw2 : -9223372036854775808 ≤ r.pw) : Calls Try.prog 18 #[.agg #[rb, rd, .int .i64 r.pw, .bool r.tr], .int .i64 ((k : Nat) : Int), .agg (blkV b)] w (Ret fun x w' => Ext w w' ∧ ∃ rb' rd', x = .tuple #[.agg #[rb', rd', .int .i64 (r.write ((k : Nat) : Int) b).1.pw, .bool (r.write ((k : Nat) : Int) b).1.tr], .bool (r.write ((k : Nat) : Int) b).2] ∧ RD w' rb' rd' (r.write ((k : Nat) : Int) b).1 ∧ ((rb' = rb ∧ rd' = rd) ∨ (Fresh w rb' ∧ Fresh w rd'))) := by
  have hnl := r.n_le
  have hnn := @Dk.n_ne r
  have hnp := @Dk.n_pos r
  have hb0 := hb
  refine calls_E (args := [.agg #[rb, rd, .int .i64 (r.pw), .bool (r.tr)], .int .i64 ((k : Nat) : Int), .agg (blkV b)]) 60 Try.func18 rfl rfl (by simp) ?_
  have hE : Ext w w := Upd.refl w
  refine E.seq ?_
  refine E.regionP rfl ?_
  refine R.box rfl nofun ?_
  intro b3 w1 hb3 hx1 hB3
  replace hb3 := Nat.le_trans hE.size hb3
  replace hR := hR.ext hx1
  replace hE := hE.ext hx1
  replace hB3 : Blk _ b3 31 #[rb, rd, .int .i64 (r.pw), .bool (r.tr)] := hB3
  refine R.box rfl nofun ?_
  intro b5 w2 hb5 hx2 hB5
  have hn_hR_5 := hR.new hb5
  replace hb5 := Nat.le_trans hE.size hb5
  replace hR := hR.ext hx2
  replace hB3 := hB3.ext hx2
  replace hE := hE.ext hx2
  replace hB5 : Blk _ b5 26 (blkV b) := hB5
  refine R.alloc t31 nofun ?_
  intro b6 w3 hb6 hx3 hB6
  have ne3_6 : b3 ≠ b6 := by have := hB3.lt; omega
  replace hb6 := Nat.le_trans hE.size hb6
  replace hR := hR.ext hx3
  replace hB3 := hB3.ext hx3
  replace hB5 := hB5.ext hx3
  replace hE := hE.ext hx3
  replace hB6 : Blk _ b6 31 #[.slice none 0 0, .slice none 0 0, .int .i64 ((0 : Nat) : Int), .bool (false)] := hB6
  refine R.assign ?_
  refine R.nil ?_
  refine E.seq ?_
  refine E.seq ?_
  refine E.regionP rfl ?_
  refine R.loadA t31 hB3 rfl rfl rfl trivial ?_
  refine R.callE1 ent44 (right_ _ hR (by omega)) rfl nofun ?_
  rintro v9 w4 hx4 rfl
  replace hR := hR.ext hx4
  replace hB3 := hB3.ext hx4
  replace hB5 := hB5.ext hx4
  replace hB6 := hB6.ext hx4
  replace hE := hE.ext hx4
  refine R.not rfl ?_
  refine R.move ?_
  have hg11 := Bool.eq_false_or_eq_true (!(decide (r.n ≠ 0)))
  rcases hg11 with hg11 | hg11
  · have hg11q := hg11
    replace hg11 := nT hg11
    refine R.gF rfl (congrArg Value.bool hg11q) rfl ?_
    refine R.gF rfl (congrArg Value.bool hg11q) rfl ?_
    refine R.pickT (congrArg Value.bool hg11q) ?_
    refine R.move ?_
    refine R.gF rfl rfl rfl ?_
    refine R.gF rfl rfl rfl ?_
    refine R.gF rfl rfl rfl ?_
    refine R.gF rfl rfl rfl ?_
    refine R.gF rfl rfl rfl ?_
    refine R.pickT rfl ?_
    refine R.nil ?_
    refine E.condT rfl ?_
    refine E.seq ?_
    refine E.forget [(3, .pointer (some ⟨b3, 0, none⟩)), (6, .pointer (some ⟨b6, 0, none⟩))] ⟨rfl, rfl, trivial⟩ (fun e => ?_)
    refine E.regionP rfl ?_
    refine R.loadA t31 hB3 rfl rfl rfl trivial ?_
    refine R.storeA t31 hB6 rfl rfl rfl rfl (ones4 hR.bls.one hR.bds.one rfl rfl) nofun ?_
    intro w5 hU5 hs5 hN5
    replace hR := hR.upT hU5 hB6 (by decide)
    replace hB3 := hB3.up hU5 (fun h => ne3_6 h)
    replace hB5 := hB5.upT hU5 hB6 (by decide)
    replace hE := hE.own hU5 hb6
    replace hB6 : Blk _ b6 31 #[rb, rd, .int .i64 (r.pw), .bool (r.tr)] := hN5
    clear hN5
    refine R.assign ?_
    refine R.nil ?_
    refine E.ret ?_
    refine retA1 (.bool (false)) t31 hB6 rfl rfl rfl rfl ⟨_, rfl, ?_⟩
    refine ⟨hE, ?_⟩
    rw [Dk.write_out (by omega)]
    exact ⟨rb, rd, rfl, hR, .inl ⟨rfl, rfl⟩⟩
  · have hg11q := hg11
    replace hg11 := nF hg11
    refine R.gT rfl (congrArg Value.bool hg11q) ?_
    refine R.move ?_
    refine R.gT rfl (congrArg Value.bool hg11q) ?_
    refine R.lss (b := false) rfl rfl (decide_eq_false (by omega)) ?_
    refine R.pickF (congrArg Value.bool hg11q) ?_
    refine R.move ?_
    refine R.gT rfl rfl ?_
    refine R.move ?_
    refine R.gT rfl rfl ?_
    refine R.fld fa31_0 rfl ?_
    refine R.gT rfl rfl ?_
    refine R.loadB t29 hB3 rfl rfl rfl trivial ?_
    refine R.gT rfl rfl ?_
    refine R.len Try.underlying29 hR.bls.row rfl ?_
    refine R.gT rfl rfl ?_
    refine R.geq (b := decide ((((r.bl.length : Nat) : Int)) ≤ (((k : Nat) : Int)))) rfl rfl rfl ?_
    refine R.pickF rfl ?_
    refine R.nil ?_
    refine E.cond (b := decide ((((r.bl.length : Nat) : Int)) ≤ (((k : Nat) : Int)))) rfl (fun hc21 => ?_) (fun hc21 => ?_)
    · replace hc21 := dT hc21
      refine E.seq ?_
      refine E.forget [(3, .pointer (some ⟨b3, 0, none⟩)), (6, .pointer (some ⟨b6, 0, none⟩))] ⟨rfl, rfl, trivial⟩ (fun e => ?_)
      refine E.regionP rfl ?_
      refine R.loadA t31 hB3 rfl rfl rfl trivial ?_
      refine R.storeA t31 hB6 rfl rfl rfl rfl (ones4 hR.bls.one hR.bds.one rfl rfl) nofun ?_
      intro w6 hU6 hs6 hN6
      replace hR := hR.upT hU6 hB6 (by decide)
      replace hB3 := hB3.up hU6 (fun h => ne3_6 h)
      replace hB5 := hB5.upT hU6 hB6 (by decide)
      replace hE := hE.own hU6 hb6
      replace hB6 : Blk _ b6 31 #[rb, rd, .int .i64 (r.pw), .bool (r.tr)] := hN6
      clear hN6
      refine R.assign ?_
      refine R.nil ?_
      refine E.ret ?_
      refine retA1 (.bool (false)) t31 hB6 rfl rfl rfl rfl ⟨_, rfl, ?_⟩
      refine ⟨hE, ?_⟩
      rw [Dk.write_out (by omega)]
      exact ⟨rb, rd, rfl, hR, .inl ⟨rfl, rfl⟩⟩
    · replace hc21 := dF hc21
      refine E.skip ?_
      refine E.seq ?_
      refine E.forget [(1, .int .i64 ((k : Nat) : Int)), (3, .pointer (some ⟨b3, 0, none⟩)), (5, .pointer (some ⟨b5, 0, none⟩)), (6, .pointer (some ⟨b6, 0, none⟩))] ⟨rfl, rfl, rfl, rfl, trivial⟩ (fun e => ?_)
      obtain ⟨q1, q2, q3, q4⟩ := hnp (Nat.pos_of_ne_zero hg11)
      clear hnn hnp
      have hkl : k < r.bl.length := by omega
      have hkb : k < r.bad.length := by omega
      refine E.regionP rfl ?_
      refine R.buildSlice [] Try.underlying29 t26 rfl rfl (by simp [Value.cells]) (by simp) nofun ?_
      intro b23 w7 hb23 hx7 hB23 hS23
      have hn_hR_23 := hR.new hb23
      have neS5_23 : b5 ≠ b23 := by have := hB5.lt; omega
      replace hb23 := Nat.le_trans hE.size hb23
      replace hR := hR.ext hx7
      replace hB3 := hB3.ext hx7
      replace hB5 := hB5.ext hx7
      replace hB6 := hB6.ext hx7
      replace hE := hE.ext hx7
      replace hS23 : Sl _ 26 64 (.slice (some ⟨b23, 0, none⟩) 0 0) 0 [] := hS23
      refine R.fld fa31_0 rfl ?_
      refine R.loadB t29 hB3 rfl rfl rfl trivial ?_
      refine R.append Try.underlying29 Try.underlying29 t26 (by decide) rfl hS23 hR.bls.row blocksC_one rfl rfl (by simp; omega) (by simp; omega) nofun ?_
      intro v26 w8 hU8 hS26 hd8
      have hF26 := Fresh.app hE (Fresh.blk hb23) hd8
      have hnv26_5 := ne_app hd8 (fun e => neS5_23 (Option.some.inj e).symm) hB5.lt
      replace hR := hR.upN (hU8.mono (fun c _ h => (Option.some.inj h).symm)) hn_hR_23
      replace hB3 := hB3.upS hU8 hS23 (by decide)
      replace hB5 := hB5.up hU8 (fun e => neS5_23 (Option.some.inj e).symm)
      replace hB6 := hB6.upS hU8 hS23 (by decide)
      replace hE := hE.app hU8 (Fresh.blk hb23)
      replace hS26 : Sl w8 26 64 v26 r.bl.length (blocksC r.bl) := TA27 (xs := []) (ys := r.bl) hS26
      refine R.fld fa31_0 rfl ?_
      refine R.store t29 hB3 rfl rfl (hS26.one) (by simp) nofun ?_
      intro w9 hU9 hs9 hN9
      replace hR := hR.upT hU9 hB3 (by decide)
      replace hS26 := hS26.upT hU9 hB3 (by decide)
      replace hB5 := hB5.upT hU9 hB3 (by decide)
      replace hB6 := hB6.up hU9 (fun h => ne3_6 h.symm)
      replace hE := hE.own hU9 hb3
      replace hB3 : Blk _ b3 31 #[v26, rd, .int .i64 (r.pw), .bool (r.tr)] := hN9
      clear hN9
      refine R.nil ?_
      refine E.seq ?_
      refine E.regionP rfl ?_
      refine R.buildSlice [] Try.underlying23 t4 rfl rfl (by simp [Value.cells]) (by simp) nofun ?_
      intro b28 w10 hb28 hx10 hB28 hS28
      have hn_hR_28 := hR.new hb28
      replace hb28 := Nat.le_trans hE.size hb28
      replace hR := hR.ext hx10
      replace hS26 := hS26.ext hx10
      replace hB3 := hB3.ext hx10
      replace hB5 := hB5.ext hx10
      replace hB6 := hB6.ext hx10
      replace hE := hE.ext hx10
      replace hS28 : Sl _ 4 1 (.slice (some ⟨b28, 0, none⟩) 0 0) 0 [] := hS28
      refine R.fld fa31_1 rfl ?_
      refine R.loadB t23 hB3 rfl rfl rfl trivial ?_
      refine R.append Try.underlying23 Try.underlying23 t4 (by decide) rfl hS28 hR.bds.row bools_one rfl rfl (by simp; omega) (by simp; omega) nofun ?_
      intro v31 w11 hU11 hS31 hd11
      have hF31 := Fresh.app hE (Fresh.blk hb28) hd11
      replace hR := hR.upN (hU11.mono (fun c _ h => (Option.some.inj h).symm)) hn_hR_28
      replace hS26 := hS26.upS hU11 hS28 (by decide)
      replace hB3 := hB3.upS hU11 hS28 (by decide)
      replace hB5 := hB5.upS hU11 hS28 (by decide)
      replace hB6 := hB6.upS hU11 hS28 (by decide)
      replace hE := hE.app hU11 (Fresh.blk hb28)
      replace hS31 : Sl w11 4 1 v31 r.bad.length (bools r.bad) := TA4 (xs := []) (ys := r.bad) hS31
      refine R.fld fa31_1 rfl ?_
      refine R.store t23 hB3 rfl rfl (hS31.one) (by simp) nofun ?_
      intro w12 hU12 hs12 hN12
      replace hR := hR.upT hU12 hB3 (by decide)
      replace hS26 := hS26.upT hU12 hB3 (by decide)
      replace hS31 := hS31.upT hU12 hB3 (by decide)
      replace hB5 := hB5.upT hU12 hB3 (by decide)
      replace hB6 := hB6.up hU12 (fun h => ne3_6 h.symm)
      replace hE := hE.own hU12 hb3
      replace hB3 : Blk _ b3 31 #[v26, v31, .int .i64 (r.pw), .bool (r.tr)] := hN12
      clear hN12
      refine R.nil ?_
      refine E.seq ?_
      refine E.seq ?_
      refine E.regionP rfl ?_
      refine R.fld fa31_2 rfl ?_
      refine R.loadB t3 hB3 rfl rfl rfl trivial ?_
      refine R.eql (b := decide ((r.pw) = (((0 : Nat) : Int)))) rfl rfl rfl ?_
      refine R.nil ?_
      refine E.cond (b := decide ((r.pw) = (((0 : Nat) : Int)))) rfl (fun hc35 => ?_) (fun hc35 => ?_)
      · replace hc35 := dT hc35
        refine E.seq ?_
        refine E.seq ?_
        refine E.forget [(1, .int .i64 ((k : Nat) : Int)), (3, .pointer (some ⟨b3, 0, none⟩)), (6, .pointer (some ⟨b6, 0, none⟩))] ⟨rfl, rfl, rfl, trivial⟩ (fun e => ?_)
        refine E.regionP rfl ?_
        refine R.fld fa31_3 rfl ?_
        refine R.loadB t4 hB3 rfl rfl rfl trivial ?_
        refine R.nil ?_
        refine E.cond (b := r.tr) rfl (fun hc37 => ?_) (fun hc37 => ?_)
        · refine E.regionP rfl ?_
          refine R.fld fa31_1 rfl ?_
          refine R.loadB t23 hB3 rfl rfl rfl trivial ?_
          refine R.move ?_
          refine R.ix (m := k) Try.underlying23 t4 (by decide) hS31.row rfl rfl (by omega) ?_
          refine R.stE (j := k) t4 hS31 rfl rfl rfl (by first | omega | decide) nofun ?_
          intro w13 hU13 hs13 hN13

          replace hS26 := hS26.upS hU13 hS31 (by decide)
          replace hB3 := hB3.upS hU13 hS31 (by decide)
          replace hB5 := hB5.upS hU13 hS31 (by decide)
          replace hB6 := hB6.upS hU13 hS31 (by decide)
          replace hE := hE.app hU13 hF31
          replace hS31 : Sl _ 4 1 v31 ((r.bad.set k true)).length (bools ((r.bad.set k true))) := (by rw [List.length_set, ← bools_set]; exact hN13)
          refine R.nil ?_
          refine E.seq ?_
          refine E.regionP rfl ?_
          refine R.loadA t31 hB3 rfl rfl rfl trivial ?_
          refine R.storeA t31 hB6 rfl rfl rfl rfl (ones4 hS26.one hS31.one rfl rfl) nofun ?_
          intro w14 hU14 hs14 hN14
          replace hS26 := hS26.upT hU14 hB6 (by decide)
          replace hS31 := hS31.upT hU14 hB6 (by decide)
          replace hB3 := hB3.up hU14 (fun h => ne3_6 h)
          replace hB5 := hB5.upT hU14 hB6 (by decide)
          replace hE := hE.own hU14 hb6
          replace hB6 : Blk _ b6 31 #[v26, v31, .int .i64 (r.pw), .bool (r.tr)] := hN14
          clear hN14
          refine R.assign ?_
          refine R.nil ?_
          refine E.ret ?_
          refine retA1 (.bool (false)) t31 hB6 rfl rfl rfl rfl ⟨_, rfl, ?_⟩
          refine ⟨hE, ?_⟩
          rw [Dk.write_off (by omega) (by omega) (by omega)]
          refine ⟨v26, v31, ?_, ⟨hS26, (show Sl _ 4 1 _ (r.bad.set k (r.bad[k] || r.tr)).length (bools (r.bad.set k (r.bad[k] || r.tr))) by rw [hc37, Bool.or_true]; exact hS31), hR.ok⟩, .inr ⟨hF26, hF31⟩⟩
          rfl
        · refine E.skip ?_
          refine E.seq ?_
          refine E.regionP rfl ?_
          refine R.loadA t31 hB3 rfl rfl rfl trivial ?_
          refine R.storeA t31 hB6 rfl rfl rfl rfl (ones4 hS26.one hS31.one rfl rfl) nofun ?_
          intro w15 hU15 hs15 hN15
          replace hR := hR.upT hU15 hB6 (by decide)
          replace hS26 := hS26.upT hU15 hB6 (by decide)
          replace hS31 := hS31.upT hU15 hB6 (by decide)
          replace hB3 := hB3.up hU15 (fun h => ne3_6 h)
          replace hB5 := hB5.upT hU15 hB6 (by decide)
          replace hE := hE.own hU15 hb6
          replace hB6 : Blk _ b6 31 #[v26, v31, .int .i64 (r.pw), .bool (r.tr)] := hN15
          clear hN15
          refine R.assign ?_
          refine R.nil ?_
          refine E.ret ?_
          refine retA1 (.bool (false)) t31 hB6 rfl rfl rfl rfl ⟨_, rfl, ?_⟩
          refine ⟨hE, ?_⟩
          rw [Dk.write_off (by omega) (by omega) (by omega)]
          refine ⟨v26, v31, ?_, ⟨hS26, (show Sl _ 4 1 _ (r.bad.set k (r.bad[k] || r.tr)).length (bools (r.bad.set k (r.bad[k] || r.tr))) by rw [hc37, Bool.or_false, List.set_getElem_self]; exact hS31), hR.ok⟩, .inr ⟨hF26, hF31⟩⟩
          rfl
      · replace hc35 := dF hc35
        refine E.skip ?_
        refine E.seq ?_
        refine E.seq ?_
        refine E.forget [(1, .int .i64 ((k : Nat) : Int)), (3, .pointer (some ⟨b3, 0, none⟩)), (5, .pointer (some ⟨b5, 0, none⟩)), (6, .pointer (some ⟨b6, 0, none⟩))] ⟨rfl, rfl, rfl, rfl, trivial⟩ (fun e => ?_)
        refine E.regionP rfl ?_
        refine R.fld fa31_2 rfl ?_
        refine R.loadB t3 hB3 rfl rfl rfl trivial ?_
        refine R.gtr (b := decide ((((0 : Nat) : Int)) < (r.pw))) rfl rfl rfl ?_
        refine R.nil ?_
        refine E.cond (b := decide ((((0 : Nat) : Int)) < (r.pw))) rfl (fun hc45 => ?_) (fun hc45 => ?_)
        · replace hc45 := dT hc45
          refine E.regionP rfl ?_
          refine R.fld fa31_2 rfl ?_
          refine R.loadB t3 hB3 rfl rfl rfl trivial ?_
          refine R.sub (m := r.pw) (n := ((1 : Nat) : Int)) rfl rfl (by omega) (by omega) ?_
          refine R.fld fa31_2 rfl ?_
          refine R.store t3 hB3 rfl rfl (rfl) (by simp) nofun ?_
          intro w16 hU16 hs16 hN16
          replace hR := hR.upT hU16 hB3 (by decide)
          replace hS26 := hS26.upT hU16 hB3 (by decide)
          replace hS31 := hS31.upT hU16 hB3 (by decide)
          replace hB5 := hB5.upT hU16 hB3 (by decide)
          replace hB6 := hB6.up hU16 (fun h => ne3_6 h.symm)
          replace hE := hE.own hU16 hb3
          replace hB3 : Blk _ b3 31 #[v26, v31, .int .i64 ((r.pw) - (((1 : Nat) : Int))), .bool (r.tr)] := hN16
          clear hN16
          refine R.nil ?_
          refine E.seq ?_
          refine E.regionP rfl ?_
          refine R.fld fa31_0 rfl ?_
          refine R.loadB t29 hB3 rfl rfl rfl trivial ?_
          refine R.move ?_
          refine R.loadA t26 hB5 rfl (blkV_size hb.1) rfl trivial ?_
          refine R.ix (m := k) Try.underlying29 t26 (by decide) hS26.row rfl rfl (by omega) ?_
          refine R.stB (b := b) (i := k) t26 hS26 hR.ok rfl rfl hb.1 (by first | omega | decide) nofun ?_
          intro w17 hU17 hs17 hN17

          replace hS31 := hS31.upS hU17 hS26 (by decide)
          replace hB3 := hB3.upS hU17 hS26 (by decide)
          replace hB5 := hB5.up hU17 (fun e => hnv26_5 e)
          replace hB6 := hB6.upS hU17 hS26 (by decide)
          replace hE := hE.app hU17 hF26
          replace hS26 : Sl _ 26 64 v26 ((r.bl.set k b)).length (blocksC ((r.bl.set k b))) := (by rw [List.length_set]; exact hN17)
          refine R.nil ?_
          refine E.seq ?_
          refine E.forget [(1, .int .i64 ((k : Nat) : Int)), (3, .pointer (some ⟨b3, 0, none⟩)), (6, .pointer (some ⟨b6, 0, none⟩))] ⟨rfl, rfl, rfl, trivial⟩ (fun e => ?_)
          refine E.regionP rfl ?_
          refine R.fld fa31_1 rfl ?_
          refine R.loadB t23 hB3 rfl rfl rfl trivial ?_
          refine R.move ?_
          refine R.ix (m := k) Try.underlying23 t4 (by decide) hS31.row rfl rfl (by omega) ?_
          refine R.stE (j := k) t4 hS31 rfl rfl rfl (by first | omega | decide) nofun ?_
          intro w18 hU18 hs18 hN18
          replace hS26 := hS26.upS hU18 hS31 (by decide)
          replace hB3 := hB3.upS hU18 hS31 (by decide)
          replace hB5 := hB5.upS hU18 hS31 (by decide)
          replace hB6 := hB6.upS hU18 hS31 (by decide)
          replace hE := hE.app hU18 hF31
          replace hS31 : Sl _ 4 1 v31 ((r.bad.set k false)).length (bools ((r.bad.set k false))) := (by rw [List.length_set, ← bools_set]; exact hN18)
          refine R.nil ?_
          refine E.seq ?_
          refine E.regionP rfl ?_
          refine R.loadA t31 hB3 rfl rfl rfl trivial ?_
          refine R.storeA t31 hB6 rfl rfl rfl rfl (ones4 hS26.one hS31.one rfl rfl) nofun ?_
          intro w19 hU19 hs19 hN19
          replace hS26 := hS26.upT hU19 hB6 (by decide)
          replace hS31 := hS31.upT hU19 hB6 (by decide)
          replace hB3 := hB3.up hU19 (fun h => ne3_6 h)
          replace hB5 := hB5.upT hU19 hB6 (by decide)
          replace hE := hE.own hU19 hb6
          replace hB6 : Blk _ b6 31 #[v26, v31, .int .i64 ((r.pw) - (((1 : Nat) : Int))), .bool (r.tr)] := hN19
          clear hN19
          refine R.assign ?_
          refine R.nil ?_
          refine E.ret ?_
          refine retA1 (.bool (true)) t31 hB6 rfl rfl rfl rfl ⟨_, rfl, ?_⟩
          refine ⟨hE, ?_⟩
          rw [Dk.write_on (by omega) (by omega)]
          refine ⟨v26, v31, ?_, ⟨hS26, hS31, (ok_set hR.ok hb)⟩, .inr ⟨hF26, hF31⟩⟩
          simp only [if_pos (show (0 : Int) < r.pw by omega)]
          rfl
        · replace hc45 := dF hc45
          refine E.skip ?_
          refine E.seq ?_
          refine E.regionP rfl ?_
          refine R.fld fa31_0 rfl ?_
          refine R.loadB t29 hB3 rfl rfl rfl trivial ?_
          refine R.move ?_
          refine R.loadA t26 hB5 rfl (blkV_size hb.1) rfl trivial ?_
          refine R.ix (m := k) Try.underlying29 t26 (by decide) hS26.row rfl rfl (by omega) ?_
          refine R.stB (b := b) (i := k) t26 hS26 hR.ok rfl rfl hb.1 (by first | omega | decide) nofun ?_
          intro w20 hU20 hs20 hN20

          replace hS31 := hS31.upS hU20 hS26 (by decide)
          replace hB3 := hB3.upS hU20 hS26 (by decide)
          replace hB5 := hB5.up hU20 (fun e => hnv26_5 e)
          replace hB6 := hB6.upS hU20 hS26 (by decide)
          replace hE := hE.app hU20 hF26
          replace hS26 : Sl _ 26 64 v26 ((r.bl.set k b)).length (blocksC ((r.bl.set k b))) := (by rw [List.length_set]; exact hN20)
          refine R.nil ?_
          refine E.seq ?_
          refine E.regionP rfl ?_
          refine R.fld fa31_1 rfl ?_
          refine R.loadB t23 hB3 rfl rfl rfl trivial ?_
          refine R.move ?_
          refine R.ix (m := k) Try.underlying23 t4 (by decide) hS31.row rfl rfl (by omega) ?_
          refine R.stE (j := k) t4 hS31 rfl rfl rfl (by first | omega | decide) nofun ?_
          intro w21 hU21 hs21 hN21
          replace hS26 := hS26.upS hU21 hS31 (by decide)
          replace hB3 := hB3.upS hU21 hS31 (by decide)
          replace hB5 := hB5.upS hU21 hS31 (by decide)
          replace hB6 := hB6.upS hU21 hS31 (by decide)
          replace hE := hE.app hU21 hF31
          replace hS31 : Sl _ 4 1 v31 ((r.bad.set k false)).length (bools ((r.bad.set k false))) := (by rw [List.length_set, ← bools_set]; exact hN21)
          refine R.nil ?_
          refine E.seq ?_
          refine E.forget [(3, .pointer (some ⟨b3, 0, none⟩)), (6, .pointer (some ⟨b6, 0, none⟩))] ⟨rfl, rfl, trivial⟩ (fun e => ?_)
          refine E.regionP rfl ?_
          refine R.loadA t31 hB3 rfl rfl rfl trivial ?_
          refine R.storeA t31 hB6 rfl rfl rfl rfl (ones4 hS26.one hS31.one rfl rfl) nofun ?_
          intro w22 hU22 hs22 hN22
          replace hS26 := hS26.upT hU22 hB6 (by decide)
          replace hS31 := hS31.upT hU22 hB6 (by decide)
          replace hB3 := hB3.up hU22 (fun h => ne3_6 h)
          replace hB5 := hB5.upT hU22 hB6 (by decide)
          replace hE := hE.own hU22 hb6
          replace hB6 : Blk _ b6 31 #[v26, v31, .int .i64 (r.pw), .bool (r.tr)] := hN22
          clear hN22
          refine R.assign ?_
          refine R.nil ?_
          refine E.ret ?_
          refine retA1 (.bool (true)) t31 hB6 rfl rfl rfl rfl ⟨_, rfl, ?_⟩
          refine ⟨hE, ?_⟩
          rw [Dk.write_on (by omega) (by omega)]
          refine ⟨v26, v31, ?_, ⟨hS26, hS31, (ok_set hR.ok hb)⟩, .inr ⟨hF26, hF31⟩⟩
          simp only [if_neg (show ¬ (0 : Int) < r.pw by omega)]
theorem rwriteN (w : World) {rb rd : Value} {r : Dk} {i : Int} {b : List Nat} (hR : RD w rb rd r) (hbl : r.bl.length ≤ 1000000) (_hb : BlockP b) (hi : i < 0) : Calls Try.prog 18 #[.agg #[rb, rd, .int .i64 r.pw, .bool r.tr], .int .i64 i, .agg (blkV b)] w (Ret fun x w' => Ext w w' ∧ ∃ rb' rd', x = .tuple #[.agg #[rb', rd', .int .i64 (r.write i b).1.pw, .bool (r.write i b).1.tr], .bool (r.write i b).2] ∧ RD w' rb' rd' (r.write i b).1 ∧ ((rb' = rb ∧ rd' = rd) ∨ (Fresh w rb' ∧ Fresh w rd'))) := by
  refine calls_E (args := [.agg #[rb, rd, .int .i64 (r.pw), .bool (r.tr)], .int .i64 (i), .agg (blkV b)]) 60 Try.func18 rfl rfl (by simp) ?_
  have hE : Ext w w := Upd.refl w
  refine E.seq ?_
  refine E.regionP rfl ?_
  refine R.box rfl nofun ?_
  intro b3 w1 hb3 hx1 hB3
  replace hb3 := Nat.le_trans hE.size hb3
  replace hR := hR.ext hx1
  replace hE := hE.ext hx1
  replace hB3 : Blk _ b3 31 #[rb, rd, .int .i64 (r.pw), .bool (r.tr)] := hB3
  refine R.box rfl nofun ?_
  intro b5 w2 hb5 hx2 hB5
  have hn_hR_5 := hR.new hb5
  replace hb5 := Nat.le_trans hE.size hb5
  replace hR := hR.ext hx2
  replace hB3 := hB3.ext hx2
  replace hE := hE.ext hx2
  replace hB5 : Blk _ b5 26 (blkV b) := hB5
  refine R.alloc t31 nofun ?_
  intro b6 w3 hb6 hx3 hB6
  have ne3_6 : b3 ≠ b6 := by have := hB3.lt; omega
  replace hb6 := Nat.le_trans hE.size hb6
  replace hR := hR.ext hx3
  replace hB3 := hB3.ext hx3
  replace hB5 := hB5.ext hx3
  replace hE := hE.ext hx3
  replace hB6 : Blk _ b6 31 #[.slice none 0 0, .slice none 0 0, .int .i64 ((0 : Nat) : Int), .bool (false)] := hB6
  refine R.assign ?_
  refine R.nil ?_
  refine E.seq ?_
  refine E.seq ?_
  refine E.regionP rfl ?_
  refine R.loadA t31 hB3 rfl rfl rfl trivial ?_
  refine R.callE1 ent44 (right_ _ hR (by omega)) rfl nofun ?_
  rintro v9 w4 hx4 rfl
  replace hR := hR.ext hx4
  replace hB3 := hB3.ext hx4
  replace hB5 := hB5.ext hx4
  replace hB6 := hB6.ext hx4
  replace hE := hE.ext hx4
  refine R.not rfl ?_
  refine R.move ?_
  have hg11 := Bool.eq_false_or_eq_true (!(decide (r.n ≠ 0)))
  rcases hg11 with hg11 | hg11
  · have hg11q := hg11
    replace hg11 := nT hg11
    refine R.gF rfl (congrArg Value.bool hg11q) rfl ?_
    refine R.gF rfl (congrArg Value.bool hg11q) rfl ?_
    refine R.pickT (congrArg Value.bool hg11q) ?_
    refine R.move ?_
    refine R.gF rfl rfl rfl ?_
    refine R.gF rfl rfl rfl ?_
    refine R.gF rfl rfl rfl ?_
    refine R.gF rfl rfl rfl ?_
    refine R.gF rfl rfl rfl ?_
    refine R.pickT rfl ?_
    refine R.nil ?_
    refine E.condT rfl ?_
    refine E.seq ?_
    refine E.forget [(3, .pointer (some ⟨b3, 0, none⟩)), (6, .pointer (some ⟨b6, 0, none⟩))] ⟨rfl, rfl, trivial⟩ (fun e => ?_)
    refine E.regionP rfl ?_
    refine R.loadA t31 hB3 rfl rfl rfl trivial ?_
    refine R.storeA t31 hB6 rfl rfl rfl rfl (ones4 hR.bls.one hR.bds.one rfl rfl) nofun ?_
    intro w5 hU5 hs5 hN5
    replace hR := hR.upT hU5 hB6 (by decide)
    replace hB3 := hB3.up hU5 (fun h => ne3_6 h)
    replace hB5 := hB5.upT hU5 hB6 (by decide)
    replace hE := hE.own hU5 hb6
    replace hB6 : Blk _ b6 31 #[rb, rd, .int .i64 (r.pw), .bool (r.tr)] := hN5
    clear hN5
    refine R.assign ?_
    refine R.nil ?_
    refine E.ret ?_
    refine retA1 (.bool (false)) t31 hB6 rfl rfl rfl rfl ⟨_, rfl, ?_⟩
    refine ⟨hE, ?_⟩
    rw [Dk.write_out (by omega)]
    exact ⟨rb, rd, rfl, hR, .inl ⟨rfl, rfl⟩⟩
  · have hg11q := hg11
    replace hg11 := nF hg11
    refine R.gT rfl (congrArg Value.bool hg11q) ?_
    refine R.move ?_
    refine R.gT rfl (congrArg Value.bool hg11q) ?_
    refine R.lss (b := true) rfl rfl (decide_eq_true (by omega)) ?_
    refine R.pickF (congrArg Value.bool hg11q) ?_
    refine R.move ?_
    refine R.gF rfl rfl rfl ?_
    refine R.gF rfl rfl rfl ?_
    refine R.gF rfl rfl rfl ?_
    refine R.gF rfl rfl rfl ?_
    refine R.gF rfl rfl rfl ?_
    refine R.pickT rfl ?_
    refine R.nil ?_
    refine E.condT rfl ?_
    refine E.seq ?_
    refine E.forget [(3, .pointer (some ⟨b3, 0, none⟩)), (6, .pointer (some ⟨b6, 0, none⟩))] ⟨rfl, rfl, trivial⟩ (fun e => ?_)
    refine E.regionP rfl ?_
    refine R.loadA t31 hB3 rfl rfl rfl trivial ?_
    refine R.storeA t31 hB6 rfl rfl rfl rfl (ones4 hR.bls.one hR.bds.one rfl rfl) nofun ?_
    intro w6 hU6 hs6 hN6
    replace hR := hR.upT hU6 hB6 (by decide)
    replace hB3 := hB3.up hU6 (fun h => ne3_6 h)
    replace hB5 := hB5.upT hU6 hB6 (by decide)
    replace hE := hE.own hU6 hb6
    replace hB6 : Blk _ b6 31 #[rb, rd, .int .i64 (r.pw), .bool (r.tr)] := hN6
    clear hN6
    refine R.assign ?_
    refine R.nil ?_
    refine E.ret ?_
    refine retA1 (.bool (false)) t31 hB6 rfl rfl rfl rfl ⟨_, rfl, ?_⟩
    refine ⟨hE, ?_⟩
    rw [Dk.write_out (by omega)]
    exact ⟨rb, rd, rfl, hR, .inl ⟨rfl, rfl⟩⟩
theorem rwrite_ (w : World) {rb rd : Value} {r : Dk} {i : Int} {b : List Nat} (hR : RD w rb rd r) (hbl : r.bl.length ≤ 1000000) (hb : BlockP b) (hpw : r.pw ≤ 9223372036854775807) (hpw2 : -9223372036854775808 ≤ r.pw) : Calls Try.prog 18 #[.agg #[rb, rd, .int .i64 r.pw, .bool r.tr], .int .i64 i, .agg (blkV b)] w (Ret fun x w' => Ext w w' ∧ ∃ rb' rd', x = .tuple #[.agg #[rb', rd', .int .i64 (r.write i b).1.pw, .bool (r.write i b).1.tr], .bool (r.write i b).2] ∧ RD w' rb' rd' (r.write i b).1 ∧ ((rb' = rb ∧ rd' = rd) ∨ (Fresh w rb' ∧ Fresh w rd'))) := by
  rcases (show i < 0 ∨ 0 ≤ i by omega) with h | h
  · exact rwriteN w hR hbl hb h
  · obtain ⟨k, rfl⟩ : ∃ k : Nat, i = (k : Int) := ⟨i.toNat, by omega⟩
    exact rwriteP w hR hbl hb hpw hpw2
end Go.Proofs.Ytlplogplicgfiaa
