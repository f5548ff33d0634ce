import Derived.Test.YtfdmndkoiheebaaZ16C8
namespace Go.Proofs.Ytfdmndkoiheebaa
open Go Go.RowKit
set_option maxHeartbeats 1600000 in
theorem rShift (w : World) {v : Value} {h f t : Int} {us : List Value} {xss : List (List Int)} (hm : Mat w v us xss) (hl : xss.length < 100000) (hx : ∀ xs ∈ xss, xs.length ≤ 10) :
    Calls Try.prog 58 #[.agg #[v, .int .i64 h], .agg #[.int .i64 f, .int .i64 t]] w (Ret fun r w' => Ext w w' ∧ RRes w' r (shiftR xss h f t)) := by
  have hxL : ∀ xs ∈ xss, xs.length < 1000000 := fun xs h => by have := hx xs h; omega
  cases hR : rightB xss h
  rotate_left
  obtain ⟨H, rfl, hH0, hH6, hl30, hl1, hxH⟩ := rightB_nat hR
  rcases (show f < 0 ∨ (0 ≤ f ∧ t < 0) ∨ (0 ≤ f ∧ 0 ≤ t ∧ (xss.length : Int) ≤ f) ∨ (0 ≤ f ∧ f < xss.length ∧ 0 ≤ t ∧ (xss.length : Int) ≤ t) ∨ (0 ≤ f ∧ f < xss.length ∧ 0 ≤ t ∧ t < xss.length) by omega) with hq | hq | hq | hq | hq
  · refine calls_E (args := [.agg #[v, .int .i64 H], .agg #[.int .i64 f, .int .i64 t]]) 90 Try.func58 rfl rfl (by simp) ?_
    have hE : Ext w w := Upd.refl w
    refine E.seq ?_
    refine E.regionP rfl ?_
    refine R.box rfl nofun ?_
    intro b2 w1 hb2 hx1 hB2
    replace hb2 := Nat.le_trans hE.size hb2
    replace hE := hE.ext hx1
    replace hB2 : Blk _ b2 54 #[v, .int .i64 H] := hB2
    refine R.box rfl nofun ?_
    intro b3 w2 hb3 hx2 hB3
    replace hb3 := Nat.le_trans hE.size hb3
    replace hB2 := hB2.ext hx2
    replace hE := hE.ext hx2
    replace hB3 : Blk _ b3 53 #[.int .i64 f, .int .i64 t] := hB3
    refine R.alloc t54 nofun ?_
    intro b4 w3 hb4 hx3 hB4
    have ne2_4 : b2 ≠ b4 := by have := hB2.lt; omega
    replace hb4 := Nat.le_trans hE.size hb4
    replace hB2 := hB2.ext hx3
    replace hB3 := hB3.ext hx3
    replace hE := hE.ext hx3
    replace hB4 : Blk _ b4 54 #[.slice none 0 0, .int .i64 0] := hB4
    refine R.assign ?_
    refine R.nil ?_
    refine E.seq ?_
    refine E.seq ?_
    refine E.regionP rfl ?_
    refine R.loadA t54 hB2 rfl rfl rfl trivial ?_
    refine R.callE1 ent55 (rRight _ (hm.ext hE) hl hx) rfl nofun ?_
    rintro v10 w4 hx4 rfl
    rw [hR]
    replace hB2 := hB2.ext hx4
    replace hB3 := hB3.ext hx4
    replace hB4 := hB4.ext hx4
    replace hE := hE.ext hx4
    refine R.not rfl ?_
    refine R.nil ?_
    refine E.condF rfl ?_
    refine E.skip ?_
    refine E.seq ?_
    refine E.seq ?_
    refine E.regionP rfl ?_
    refine R.fld fa53_0 rfl ?_
    refine R.loadB t3 hB3 rfl rfl rfl trivial ?_
    refine R.lss (b := true) rfl rfl (decide_eq_true (by omega)) ?_
    refine R.move ?_
    refine R.gF rfl rfl rfl ?_
    refine R.gF rfl rfl rfl ?_
    refine R.gF rfl rfl rfl ?_
    refine R.pickT rfl ?_
    refine R.move ?_
    refine R.gF rfl rfl rfl ?_
    refine R.gF rfl rfl rfl ?_
    refine R.gF rfl rfl rfl ?_
    refine R.gF rfl rfl rfl ?_
    refine R.gF rfl rfl rfl ?_
    refine R.gF rfl rfl rfl ?_
    refine R.pickT rfl ?_
    refine R.move ?_
    refine R.gF rfl rfl rfl ?_
    refine R.gF rfl rfl rfl ?_
    refine R.gF rfl rfl rfl ?_
    refine R.gF rfl rfl rfl ?_
    refine R.gF rfl rfl rfl ?_
    refine R.gF rfl rfl rfl ?_
    refine R.pickT rfl ?_
    refine R.nil ?_
    refine E.condT rfl ?_
    refine E.seq ?_
    refine E.regionP rfl ?_
    refine R.build build54_0 rfl ?_
    refine R.storeA t54 hB4 rfl rfl rfl rfl (ones2 rfl rfl) nofun ?_
    intro w5 hU5 hs5 hN5
    replace hB2 := hB2.up hU5 (fun h => ne2_4 h)
    replace hB3 := hB3.upT hU5 hB4 (by decide)
    replace hE := hE.own hU5 hb4
    replace hB4 : Blk _ b4 54 #[.slice none 0 0, .int .i64 0] := hN5
    clear hN5
    refine R.assign ?_
    refine R.nil ?_
    refine E.ret ?_
    refine retA1 (.int .i64 6) t54 hB4 rfl rfl rfl rfl ⟨_, rfl, hE, ?_⟩
    rw [show shiftR xss H f t = ([], 0, 6) by simp only [shiftR, hR, Int.toNat_natCast, shiftL]; rw [if_pos (show f < 0 ∨ (xss.length : Int) ≤ f ∨ t < 0 ∨ (xss.length : Int) ≤ t by omega)]; simp]
    exact RRes.zero
  · refine calls_E (args := [.agg #[v, .int .i64 H], .agg #[.int .i64 f, .int .i64 t]]) 90 Try.func58 rfl rfl (by simp) ?_
    have hE : Ext w w := Upd.refl w
    refine E.seq ?_
    refine E.regionP rfl ?_
    refine R.box rfl nofun ?_
    intro b2 w1 hb2 hx1 hB2
    replace hb2 := Nat.le_trans hE.size hb2
    replace hE := hE.ext hx1
    replace hB2 : Blk _ b2 54 #[v, .int .i64 H] := hB2
    refine R.box rfl nofun ?_
    intro b3 w2 hb3 hx2 hB3
    replace hb3 := Nat.le_trans hE.size hb3
    replace hB2 := hB2.ext hx2
    replace hE := hE.ext hx2
    replace hB3 : Blk _ b3 53 #[.int .i64 f, .int .i64 t] := hB3
    refine R.alloc t54 nofun ?_
    intro b4 w3 hb4 hx3 hB4
    have ne2_4 : b2 ≠ b4 := by have := hB2.lt; omega
    replace hb4 := Nat.le_trans hE.size hb4
    replace hB2 := hB2.ext hx3
    replace hB3 := hB3.ext hx3
    replace hE := hE.ext hx3
    replace hB4 : Blk _ b4 54 #[.slice none 0 0, .int .i64 0] := hB4
    refine R.assign ?_
    refine R.nil ?_
    refine E.seq ?_
    refine E.seq ?_
    refine E.regionP rfl ?_
    refine R.loadA t54 hB2 rfl rfl rfl trivial ?_
    refine R.callE1 ent55 (rRight _ (hm.ext hE) hl hx) rfl nofun ?_
    rintro v10 w4 hx4 rfl
    rw [hR]
    replace hB2 := hB2.ext hx4
    replace hB3 := hB3.ext hx4
    replace hB4 := hB4.ext hx4
    replace hE := hE.ext hx4
    refine R.not rfl ?_
    refine R.nil ?_
    refine E.condF rfl ?_
    refine E.skip ?_
    refine E.seq ?_
    refine E.seq ?_
    refine E.regionP rfl ?_
    refine R.fld fa53_0 rfl ?_
    refine R.loadB t3 hB3 rfl rfl rfl trivial ?_
    refine R.lss (b := false) rfl rfl (decide_eq_false (by omega)) ?_
    refine R.move ?_
    refine R.gT rfl rfl ?_
    refine R.fld fa53_1 rfl ?_
    refine R.gT rfl rfl ?_
    refine R.loadB t3 hB3 rfl rfl rfl trivial ?_
    refine R.gT rfl rfl ?_
    refine R.lss (b := true) rfl rfl (decide_eq_true (by omega)) ?_
    refine R.pickF rfl ?_
    refine R.move ?_
    refine R.gF rfl rfl rfl ?_
    refine R.gF rfl rfl rfl ?_
    refine R.gF rfl rfl rfl ?_
    refine R.gF rfl rfl rfl ?_
    refine R.gF rfl rfl rfl ?_
    refine R.gF rfl rfl rfl ?_
    refine R.pickT rfl ?_
    refine R.move ?_
    refine R.gF rfl rfl rfl ?_
    refine R.gF rfl rfl rfl ?_
    refine R.gF rfl rfl rfl ?_
    refine R.gF rfl rfl rfl ?_
    refine R.gF rfl rfl rfl ?_
    refine R.gF rfl rfl rfl ?_
    refine R.pickT rfl ?_
    refine R.nil ?_
    refine E.condT rfl ?_
    refine E.seq ?_
    refine E.regionP rfl ?_
    refine R.build build54_0 rfl ?_
    refine R.storeA t54 hB4 rfl rfl rfl rfl (ones2 rfl rfl) nofun ?_
    intro w5 hU5 hs5 hN5
    replace hB2 := hB2.up hU5 (fun h => ne2_4 h)
    replace hB3 := hB3.upT hU5 hB4 (by decide)
    replace hE := hE.own hU5 hb4
    replace hB4 : Blk _ b4 54 #[.slice none 0 0, .int .i64 0] := hN5
    clear hN5
    refine R.assign ?_
    refine R.nil ?_
    refine E.ret ?_
    refine retA1 (.int .i64 6) t54 hB4 rfl rfl rfl rfl ⟨_, rfl, hE, ?_⟩
    rw [show shiftR xss H f t = ([], 0, 6) by simp only [shiftR, hR, Int.toNat_natCast, shiftL]; rw [if_pos (show f < 0 ∨ (xss.length : Int) ≤ f ∨ t < 0 ∨ (xss.length : Int) ≤ t by omega)]; simp]
    exact RRes.zero
  · refine calls_E (args := [.agg #[v, .int .i64 H], .agg #[.int .i64 f, .int .i64 t]]) 90 Try.func58 rfl rfl (by simp) ?_
    have hE : Ext w w := Upd.refl w
    refine E.seq ?_
    refine E.regionP rfl ?_
    refine R.box rfl nofun ?_
    intro b2 w1 hb2 hx1 hB2
    replace hb2 := Nat.le_trans hE.size hb2
    replace hE := hE.ext hx1
    replace hB2 : Blk _ b2 54 #[v, .int .i64 H] := hB2
    refine R.box rfl nofun ?_
    intro b3 w2 hb3 hx2 hB3
    replace hb3 := Nat.le_trans hE.size hb3
    replace hB2 := hB2.ext hx2
    replace hE := hE.ext hx2
    replace hB3 : Blk _ b3 53 #[.int .i64 f, .int .i64 t] := hB3
    refine R.alloc t54 nofun ?_
    intro b4 w3 hb4 hx3 hB4
    have ne2_4 : b2 ≠ b4 := by have := hB2.lt; omega
    replace hb4 := Nat.le_trans hE.size hb4
    replace hB2 := hB2.ext hx3
    replace hB3 := hB3.ext hx3
    replace hE := hE.ext hx3
    replace hB4 : Blk _ b4 54 #[.slice none 0 0, .int .i64 0] := hB4
    refine R.assign ?_
    refine R.nil ?_
    refine E.seq ?_
    refine E.seq ?_
    refine E.regionP rfl ?_
    refine R.loadA t54 hB2 rfl rfl rfl trivial ?_
    refine R.callE1 ent55 (rRight _ (hm.ext hE) hl hx) rfl nofun ?_
    rintro v10 w4 hx4 rfl
    rw [hR]
    replace hB2 := hB2.ext hx4
    replace hB3 := hB3.ext hx4
    replace hB4 := hB4.ext hx4
    replace hE := hE.ext hx4
    refine R.not rfl ?_
    refine R.nil ?_
    refine E.condF rfl ?_
    refine E.skip ?_
    refine E.seq ?_
    refine E.seq ?_
    refine E.regionP rfl ?_
    refine R.fld fa53_0 rfl ?_
    refine R.loadB t3 hB3 rfl rfl rfl trivial ?_
    refine R.lss (b := false) rfl rfl (decide_eq_false (by omega)) ?_
    refine R.move ?_
    refine R.gT rfl rfl ?_
    refine R.fld fa53_1 rfl ?_
    refine R.gT rfl rfl ?_
    refine R.loadB t3 hB3 rfl rfl rfl trivial ?_
    refine R.gT rfl rfl ?_
    refine R.lss (b := false) rfl rfl (decide_eq_false (by omega)) ?_
    refine R.pickF rfl ?_
    refine R.move ?_
    refine R.gT rfl rfl ?_
    refine R.fld fa53_0 rfl ?_
    refine R.gT rfl rfl ?_
    refine R.loadB t3 hB3 rfl rfl rfl trivial ?_
    refine R.gT rfl rfl ?_
    refine R.fld fa54_0 rfl ?_
    refine R.gT rfl rfl ?_
    refine R.loadB t22 hB2 rfl rfl rfl trivial ?_
    refine R.gT rfl rfl ?_
    refine R.len Try.underlying22 hm.row rfl ?_
    refine R.gT rfl rfl ?_
    refine R.geq (b := true) rfl rfl (decide_eq_true (by omega)) ?_
    refine R.pickF rfl ?_
    refine R.move ?_
    refine R.gF rfl rfl rfl ?_
    refine R.gF rfl rfl rfl ?_
    refine R.gF rfl rfl rfl ?_
    refine R.gF rfl rfl rfl ?_
    refine R.gF rfl rfl rfl ?_
    refine R.gF rfl rfl rfl ?_
    refine R.pickT rfl ?_
    refine R.nil ?_
    refine E.condT rfl ?_
    refine E.seq ?_
    refine E.regionP rfl ?_
    refine R.build build54_0 rfl ?_
    refine R.storeA t54 hB4 rfl rfl rfl rfl (ones2 rfl rfl) nofun ?_
    intro w5 hU5 hs5 hN5
    replace hB2 := hB2.up hU5 (fun h => ne2_4 h)
    replace hB3 := hB3.upT hU5 hB4 (by decide)
    replace hE := hE.own hU5 hb4
    replace hB4 : Blk _ b4 54 #[.slice none 0 0, .int .i64 0] := hN5
    clear hN5
    refine R.assign ?_
    refine R.nil ?_
    refine E.ret ?_
    refine retA1 (.int .i64 6) t54 hB4 rfl rfl rfl rfl ⟨_, rfl, hE, ?_⟩
    rw [show shiftR xss H f t = ([], 0, 6) by simp only [shiftR, hR, Int.toNat_natCast, shiftL]; rw [if_pos (show f < 0 ∨ (xss.length : Int) ≤ f ∨ t < 0 ∨ (xss.length : Int) ≤ t by omega)]; simp]
    exact RRes.zero
  · refine calls_E (args := [.agg #[v, .int .i64 H], .agg #[.int .i64 f, .int .i64 t]]) 90 Try.func58 rfl rfl (by simp) ?_
    have hE : Ext w w := Upd.refl w
    refine E.seq ?_
    refine E.regionP rfl ?_
    refine R.box rfl nofun ?_
    intro b2 w1 hb2 hx1 hB2
    replace hb2 := Nat.le_trans hE.size hb2
    replace hE := hE.ext hx1
    replace hB2 : Blk _ b2 54 #[v, .int .i64 H] := hB2
    refine R.box rfl nofun ?_
    intro b3 w2 hb3 hx2 hB3
    replace hb3 := Nat.le_trans hE.size hb3
    replace hB2 := hB2.ext hx2
    replace hE := hE.ext hx2
    replace hB3 : Blk _ b3 53 #[.int .i64 f, .int .i64 t] := hB3
    refine R.alloc t54 nofun ?_
    intro b4 w3 hb4 hx3 hB4
    have ne2_4 : b2 ≠ b4 := by have := hB2.lt; omega
    replace hb4 := Nat.le_trans hE.size hb4
    replace hB2 := hB2.ext hx3
    replace hB3 := hB3.ext hx3
    replace hE := hE.ext hx3
    replace hB4 : Blk _ b4 54 #[.slice none 0 0, .int .i64 0] := hB4
    refine R.assign ?_
    refine R.nil ?_
    refine E.seq ?_
    refine E.seq ?_
    refine E.regionP rfl ?_
    refine R.loadA t54 hB2 rfl rfl rfl trivial ?_
    refine R.callE1 ent55 (rRight _ (hm.ext hE) hl hx) rfl nofun ?_
    rintro v10 w4 hx4 rfl
    rw [hR]
    replace hB2 := hB2.ext hx4
    replace hB3 := hB3.ext hx4
    replace hB4 := hB4.ext hx4
    replace hE := hE.ext hx4
    refine R.not rfl ?_
    refine R.nil ?_
    refine E.condF rfl ?_
    refine E.skip ?_
    refine E.seq ?_
    refine E.seq ?_
    refine E.regionP rfl ?_
    refine R.fld fa53_0 rfl ?_
    refine R.loadB t3 hB3 rfl rfl rfl trivial ?_
    refine R.lss (b := false) rfl rfl (decide_eq_false (by omega)) ?_
    refine R.move ?_
    refine R.gT rfl rfl ?_
    refine R.fld fa53_1 rfl ?_
    refine R.gT rfl rfl ?_
    refine R.loadB t3 hB3 rfl rfl rfl trivial ?_
    refine R.gT rfl rfl ?_
    refine R.lss (b := false) rfl rfl (decide_eq_false (by omega)) ?_
    refine R.pickF rfl ?_
    refine R.move ?_
    refine R.gT rfl rfl ?_
    refine R.fld fa53_0 rfl ?_
    refine R.gT rfl rfl ?_
    refine R.loadB t3 hB3 rfl rfl rfl trivial ?_
    refine R.gT rfl rfl ?_
    refine R.fld fa54_0 rfl ?_
    refine R.gT rfl rfl ?_
    refine R.loadB t22 hB2 rfl rfl rfl trivial ?_
    refine R.gT rfl rfl ?_
    refine R.len Try.underlying22 hm.row rfl ?_
    refine R.gT rfl rfl ?_
    refine R.geq (b := false) rfl rfl (decide_eq_false (by omega)) ?_
    refine R.pickF rfl ?_
    refine R.move ?_
    refine R.gT rfl rfl ?_
    refine R.fld fa53_1 rfl ?_
    refine R.gT rfl rfl ?_
    refine R.loadB t3 hB3 rfl rfl rfl trivial ?_
    refine R.gT rfl rfl ?_
    refine R.fld fa54_0 rfl ?_
    refine R.gT rfl rfl ?_
    refine R.loadB t22 hB2 rfl rfl rfl trivial ?_
    refine R.gT rfl rfl ?_
    refine R.len Try.underlying22 hm.row rfl ?_
    refine R.gT rfl rfl ?_
    refine R.geq (b := true) rfl rfl (decide_eq_true (by omega)) ?_
    refine R.pickF rfl ?_
    refine R.nil ?_
    refine E.condT rfl ?_
    refine E.seq ?_
    refine E.regionP rfl ?_
    refine R.build build54_0 rfl ?_
    refine R.storeA t54 hB4 rfl rfl rfl rfl (ones2 rfl rfl) nofun ?_
    intro w5 hU5 hs5 hN5
    replace hB2 := hB2.up hU5 (fun h => ne2_4 h)
    replace hB3 := hB3.upT hU5 hB4 (by decide)
    replace hE := hE.own hU5 hb4
    replace hB4 : Blk _ b4 54 #[.slice none 0 0, .int .i64 0] := hN5
    clear hN5
    refine R.assign ?_
    refine R.nil ?_
    refine E.ret ?_
    refine retA1 (.int .i64 6) t54 hB4 rfl rfl rfl rfl ⟨_, rfl, hE, ?_⟩
    rw [show shiftR xss H f t = ([], 0, 6) by simp only [shiftR, hR, Int.toNat_natCast, shiftL]; rw [if_pos (show f < 0 ∨ (xss.length : Int) ≤ f ∨ t < 0 ∨ (xss.length : Int) ≤ t by omega)]; simp]
    exact RRes.zero
  · obtain ⟨a, rfl⟩ : ∃ a : Nat, f = a := ⟨f.toNat, by omega⟩
    obtain ⟨b, rfl⟩ : ∃ b : Nat, t = b := ⟨t.toNat, by omega⟩
    have hal : a < xss.length := by omega
    have hbl : b < xss.length := by omega
    have hxa := hxH _ (List.getElem_mem hal)
    have hxb := hxH _ (List.getElem_mem hbl)
    have hga : xss.getD a [] = xss[a] := by simp [hal]
    have hgb : xss.getD b [] = xss[b] := by simp [hbl]
    refine calls_E (args := [.agg #[v, .int .i64 H], .agg #[.int .i64 (a : Nat), .int .i64 (b : Nat)]]) 90 Try.func58 rfl rfl (by simp) ?_
    have hE : Ext w w := Upd.refl w
    refine E.seq ?_
    refine E.regionP rfl ?_
    refine R.box rfl nofun ?_
    intro b2 w1 hb2 hx1 hB2
    replace hb2 := Nat.le_trans hE.size hb2
    replace hE := hE.ext hx1
    replace hB2 : Blk _ b2 54 #[v, .int .i64 H] := hB2
    refine R.box rfl nofun ?_
    intro b3 w2 hb3 hx2 hB3
    replace hb3 := Nat.le_trans hE.size hb3
    replace hB2 := hB2.ext hx2
    replace hE := hE.ext hx2
    replace hB3 : Blk _ b3 53 #[.int .i64 (a : Nat), .int .i64 (b : Nat)] := hB3
    refine R.alloc t54 nofun ?_
    intro b4 w3 hb4 hx3 hB4
    have ne2_4 : b2 ≠ b4 := by have := hB2.lt; omega
    replace hb4 := Nat.le_trans hE.size hb4
    replace hB2 := hB2.ext hx3
    replace hB3 := hB3.ext hx3
    replace hE := hE.ext hx3
    replace hB4 : Blk _ b4 54 #[.slice none 0 0, .int .i64 0] := hB4
    refine R.assign ?_
    refine R.nil ?_
    refine E.seq ?_
    refine E.seq ?_
    refine E.regionP rfl ?_
    refine R.loadA t54 hB2 rfl rfl rfl trivial ?_
    refine R.callE1 ent55 (rRight _ (hm.ext hE) hl hx) rfl nofun ?_
    rintro v10 w4 hx4 rfl
    rw [hR]
    replace hB2 := hB2.ext hx4
    replace hB3 := hB3.ext hx4
    replace hB4 := hB4.ext hx4
    replace hE := hE.ext hx4
    refine R.not rfl ?_
    refine R.nil ?_
    refine E.condF rfl ?_
    refine E.skip ?_
    refine E.seq ?_
    refine E.seq ?_
    refine E.regionP rfl ?_
    refine R.fld fa53_0 rfl ?_
    refine R.loadB t3 hB3 rfl rfl rfl trivial ?_
    refine R.lss (b := false) rfl rfl (decide_eq_false (by omega)) ?_
    refine R.move ?_
    refine R.gT rfl rfl ?_
    refine R.fld fa53_1 rfl ?_
    refine R.gT rfl rfl ?_
    refine R.loadB t3 hB3 rfl rfl rfl trivial ?_
    refine R.gT rfl rfl ?_
    refine R.lss (b := false) rfl rfl (decide_eq_false (by omega)) ?_
    refine R.pickF rfl ?_
    refine R.move ?_
    refine R.gT rfl rfl ?_
    refine R.fld fa53_0 rfl ?_
    refine R.gT rfl rfl ?_
    refine R.loadB t3 hB3 rfl rfl rfl trivial ?_
    refine R.gT rfl rfl ?_
    refine R.fld fa54_0 rfl ?_
    refine R.gT rfl rfl ?_
    refine R.loadB t22 hB2 rfl rfl rfl trivial ?_
    refine R.gT rfl rfl ?_
    refine R.len Try.underlying22 hm.row rfl ?_
    refine R.gT rfl rfl ?_
    refine R.geq (b := false) rfl rfl (decide_eq_false (by omega)) ?_
    refine R.pickF rfl ?_
    refine R.move ?_
    refine R.gT rfl rfl ?_
    refine R.fld fa53_1 rfl ?_
    refine R.gT rfl rfl ?_
    refine R.loadB t3 hB3 rfl rfl rfl trivial ?_
    refine R.gT rfl rfl ?_
    refine R.fld fa54_0 rfl ?_
    refine R.gT rfl rfl ?_
    refine R.loadB t22 hB2 rfl rfl rfl trivial ?_
    refine R.gT rfl rfl ?_
    refine R.len Try.underlying22 hm.row rfl ?_
    refine R.gT rfl rfl ?_
    refine R.geq (b := false) rfl rfl (decide_eq_false (by omega)) ?_
    refine R.pickF rfl ?_
    refine R.nil ?_
    refine E.condF rfl ?_
    refine E.skip ?_
    refine E.seq ?_
    refine E.seq ?_
    refine E.regionP rfl ?_
    refine R.fld fa53_0 rfl ?_
    refine R.loadB t3 hB3 rfl rfl rfl trivial ?_
    refine R.fld fa53_1 rfl ?_
    refine R.loadB t3 hB3 rfl rfl rfl trivial ?_
    refine R.eql rfl rfl rfl ?_
    refine R.nil ?_
    refine E.cond rfl (fun hc42 => ?_) (fun hc42 => ?_)
    · replace hc42 := dT hc42
      refine E.seq ?_
      refine E.regionP rfl ?_
      refine R.build build54_0 rfl ?_
      refine R.storeA t54 hB4 rfl rfl rfl rfl (ones2 rfl rfl) nofun ?_
      intro w5 hU5 hs5 hN5
      replace hB2 := hB2.up hU5 (fun h => ne2_4 h)
      replace hB3 := hB3.upT hU5 hB4 (by decide)
      replace hE := hE.own hU5 hb4
      replace hB4 : Blk _ b4 54 #[.slice none 0 0, .int .i64 0] := hN5
      clear hN5
      refine R.assign ?_
      refine R.nil ?_
      refine E.ret ?_
      refine retA1 (.int .i64 340) t54 hB4 rfl rfl rfl rfl ⟨_, rfl, hE, ?_⟩
      have e1 : shiftL xss H a b = (xss, 340) := by
        simp only [shiftL]
        rw [if_neg (by omega), if_pos hc42]
      rw [show shiftR xss H a b = ([], 0, 340) by simp [shiftR, hR, e1]]
      exact RRes.zero
    · replace hc42 := dF hc42
      refine E.skip ?_
      refine E.seq ?_
      refine E.regionW allS [] mixed rfl (by kernel_rfl) ?_
      intro w6 hx6 hh6
      replace hB2 := hB2.ext hx6
      replace hB3 := hB3.ext hx6
      replace hB4 := hB4.ext hx6
      replace hE := hE.ext hx6
      refine R.fld fa54_0 rfl ?_
      refine R.loadB t22 hB2 rfl rfl rfl trivial ?_
      refine R.fld fa53_0 rfl ?_
      refine R.loadB t3 hB3 rfl rfl rfl trivial ?_
      refine R.ix Try.underlying22 t35 (by decide) hm.row rfl rfl hal ?_
      obtain ⟨u49, hu49, hr49⟩ := hm.get a (by omega)
      refine R.ld t35 (hm.row.ext hE) rfl hu49 rfl (fun _ _ => trivial) ?_
      refine R.fld fa54_0 rfl ?_
      refine R.loadB t22 hB2 rfl rfl rfl trivial ?_
      refine R.fld fa53_1 rfl ?_
      refine R.loadB t3 hB3 rfl rfl rfl trivial ?_
      refine R.ix Try.underlying22 t35 (by decide) hm.row rfl rfl hbl ?_
      obtain ⟨u55, hu55, hr55⟩ := hm.get b (by omega)
      refine R.ld t35 (hm.row.ext hE) rfl hu55 rfl (fun _ _ => trivial) ?_
      refine R.assign ?_
      refine R.assign ?_
      refine R.nil ?_
      refine E.seq ?_
      refine E.seq ?_
      refine E.regionP rfl ?_
      refine R.move ?_
      refine R.len Try.underlying35 hr49 rfl ?_
      refine R.eql rfl rfl rfl ?_
      refine R.nil ?_
      refine E.cond rfl (fun hc58 => ?_) (fun hc58 => ?_)
      · replace hc58 := dT hc58
        refine E.seq ?_
        refine E.regionP rfl ?_
        refine R.build build54_0 rfl ?_
        refine R.storeA t54 hB4 rfl rfl rfl rfl (ones2 rfl rfl) nofun ?_
        intro w7 hU7 hs7 hN7
        replace hB2 := hB2.up hU7 (fun h => ne2_4 h)
        replace hB3 := hB3.upT hU7 hB4 (by decide)
        replace hE := hE.own hU7 hb4
        replace hB4 : Blk _ b4 54 #[.slice none 0 0, .int .i64 0] := hN7
        clear hN7
        refine R.assign ?_
        refine R.nil ?_
        refine E.ret ?_
        refine retA1 (.int .i64 341) t54 hB4 rfl rfl rfl rfl ⟨_, rfl, hE, ?_⟩
        have e1 : shiftL xss H a b = (xss, 341) := by
          simp only [shiftL]
          rw [if_neg (by omega), if_neg hc42, Int.toNat_natCast, hga, if_pos (by omega)]
        rw [show shiftR xss H a b = ([], 0, 341) by simp [shiftR, hR, e1]]
        exact RRes.zero
      · replace hc58 := dF hc58
        refine E.skip ?_
        refine E.seq ?_
        refine E.seq ?_
        refine E.regionP rfl ?_
        refine R.move ?_
        refine R.len Try.underlying35 hr55 rfl ?_
        refine R.fld fa54_1 rfl ?_
        refine R.loadB t3 hB2 rfl rfl rfl trivial ?_
        refine R.geq rfl rfl rfl ?_
        refine R.nil ?_
        refine E.cond rfl (fun hc64 => ?_) (fun hc64 => ?_)
        · replace hc64 := dT hc64
          refine E.seq ?_
          refine E.regionP rfl ?_
          refine R.build build54_0 rfl ?_
          refine R.storeA t54 hB4 rfl rfl rfl rfl (ones2 rfl rfl) nofun ?_
          intro w8 hU8 hs8 hN8
          replace hB2 := hB2.up hU8 (fun h => ne2_4 h)
          replace hB3 := hB3.upT hU8 hB4 (by decide)
          replace hE := hE.own hU8 hb4
          replace hB4 : Blk _ b4 54 #[.slice none 0 0, .int .i64 0] := hN8
          clear hN8
          refine R.assign ?_
          refine R.nil ?_
          refine E.ret ?_
          refine retA1 (.int .i64 4) t54 hB4 rfl rfl rfl rfl ⟨_, rfl, hE, ?_⟩
          have e1 : shiftL xss H a b = (xss, 4) := by
            simp only [shiftL]
            rw [if_neg (by omega), if_neg hc42, Int.toNat_natCast, Int.toNat_natCast, hga, hgb, if_neg (by omega), if_pos (by omega)]
          rw [show shiftR xss H a b = ([], 0, 4) by simp [shiftR, hR, e1]]
          exact RRes.zero
        · replace hc64 := dF hc64
          refine E.skip ?_
          refine E.seq ?_
          have hW0 := hE.size
          refine E.regionF (fun c x => x < w6.heap.size ∧ (c = false → True)) [] [] mixed rfl (by kernel_rfl) (fun _ _ h => h.1) ?_
          intro w9 hx9 hh9
          replace hB2 := hB2.ext hx9
          replace hB3 := hB3.ext hx9
          replace hB4 := hB4.ext hx9
          replace hE := hE.ext hx9
          have hEs : Ext w9 w9 := Upd.refl _
          have hS0 := hx9.size
          have hSB : ∀ b, b < w9.heap.size → b < w6.heap.size ∧ (true = false → (fun x => True) b) := fun b hb => ⟨by rw [hh9] at hb; exact hb, nofun⟩
          have hSA : ∀ b, b < w9.heap.size → (fun x => True) b → b < w6.heap.size ∧ (false = false → (fun x => True) b) := fun b hb h => ⟨by rw [hh9] at hb; exact hb, fun _ => h⟩
          have hSO : ∀ b, b < w.heap.size → b < w6.heap.size ∧ (false = false → (fun x => True) b) := fun b hb => hSA b (Nat.lt_of_lt_of_le hb hE.size) (trivial)
          have hB2s := hB2
          have hB3s := hB3
          have hB4s := hB4
          refine G.q rfl (Nat.le_of_ble_eq_true rfl) ?_
          refine R.loadA t54 (hB2s.ext hEs) rfl rfl rfl (hSA b2 hB2s.lt (trivial)) ?_
          refine R.nil ?_
          refine G.q rfl (Nat.le_of_ble_eq_true rfl) ?_
          refine R.fld fa53_1 rfl ?_
          refine R.nil ?_
          refine G.q rfl (Nat.le_of_ble_eq_true rfl) ?_
          refine R.loadB t3 (hB3s.ext hEs) rfl rfl rfl (hSA b3 hB3s.lt (trivial)) ?_
          refine R.nil ?_
          refine G.buildSlice [] Try.underlying35 t3 rfl rfl (by simp) (by simp) ?_
          intro w10 b69 K10 hx10 hb69 hn69 hK10 hk69 hS69
          have hn069 := hb69
          replace hb69 := Nat.le_trans hW0 hb69
          replace hB2 := hB2.ext hx10
          replace hB3 := hB3.ext hx10
          replace hB4 := hB4.ext hx10
          replace hE := hE.ext hx10
          replace hEs := hEs.ext hx10
          refine G.q rfl (Nat.le_of_ble_eq_true rfl) ?_
          refine R.move ?_
          refine R.nil ?_
          refine G.l rfl rfl (.inr rfl) (Nat.le_of_ble_eq_true rfl) ?_
          intro w11 hx11
          replace hS69 := hS69.ext hx11
          replace hB2 := hB2.ext hx11
          replace hB3 := hB3.ext hx11
          replace hB4 := hB4.ext hx11
          replace hE := hE.ext hx11
          replace hEs := hEs.ext hx11
          have hz71 := Nat.le_trans hS0 hEs.size
          refine R.append (m := xss[b].length) Try.underlying35 Try.underlying35 t3 (by decide) rfl hS69 (hr55.ext hE) ints_one rfl rfl (by simp; omega) (by simp; omega) (fun _ b hb => ⟨G.S1_lt (fun _ _ h => h.1) (Nat.le_trans hS0 hEs.size) hb, fun e => by simp [vblk] at e; subst e; exact G.S1_new (fun _ _ h => h.1) hn069 hk69 hb⟩) ?_
          intro v71 w71 hU71 hS71 hd71
          have hy71 := hEs.trans hU71 (fun b hb h => by simp [vblk] at h; subst h; rw [hh9] at hb; omega)
          clear hS69
          replace hE := hE.trans hU71 (fun b hb h => by simp [vblk] at h; omega)
          replace hEs := hy71
          replace hB2 := hB2s.ext hy71
          replace hB3 := hB3s.ext hy71
          replace hB4 := hB4s.ext hy71
          have hR71 : SInts _ v71 xss[b] := SInts.of0 hS71 rfl
          clear hS71
          refine R.nil ⟨hU71.size, ?_⟩
          intro K11 hK11 hN11
          replace hk69 := hK11 _ hk69
          have hv71 : ∀ b, vblk v71 = some b → _ ≤ b ∧ K11 b := fun b e => by
            rcases hd71 with ⟨h1, _⟩ | ⟨b', h1, h2, _⟩
            · rw [h1] at e; simp [vblk] at e; subst e; exact ⟨hn069, hk69⟩
            · rw [h1] at e; simp at e; subst e; exact ⟨Nat.le_trans hz71 h2, hN11 _ h2 (Sl.blk_lt hR71 h1)⟩
          clear hd71
          refine G.q rfl (Nat.le_of_ble_eq_true rfl) ?_
          refine R.move ?_
          refine R.nil ?_
          refine G.q rfl (Nat.le_of_ble_eq_true rfl) ?_
          refine R.move ?_
          refine R.nil ?_
          refine G.q rfl (Nat.le_of_ble_eq_true rfl) ?_
          refine R.len Try.underlying35 hr49 rfl ?_
          refine R.nil ?_
          refine G.q rfl (Nat.le_of_ble_eq_true rfl) ?_
          refine R.subN (n := 1) rfl rfl (by omega) (by omega) ?_
          refine R.nil ?_
          refine G.q rfl (Nat.le_of_ble_eq_true rfl) ?_
          refine R.ix Try.underlying35 t3 (by decide) hr49 rfl rfl (by omega) ?_
          refine R.nil ?_
          refine G.q rfl (Nat.le_of_ble_eq_true rfl) ?_
          refine R.ldE t3 hr49 hE rfl (int_at (k := xss[a].length - 1) (by omega)) rfl hSO ?_
          refine R.nil ?_
          refine G.buildSlice [.int .i64 xss[a][xss[a].length - 1]] Try.underlying35 t3 rfl rfl (by simp [Value.cells]) (by simp) ?_
          intro w12 b78 K12 hx12 hb78 hn78 hK12 hk78 hS78
          replace hk69 := hK12 _ hk69
          replace hv71 := fun b e => And.intro (hv71 b e).1 (hK12 _ (hv71 b e).2)
          have hn078 := hb78
          replace hb78 := Nat.le_trans hW0 hb78
          replace hR71 := hR71.ext hx12
          replace hB2 := hB2.ext hx12
          replace hB3 := hB3.ext hx12
          replace hB4 := hB4.ext hx12
          replace hE := hE.ext hx12
          replace hEs := hEs.ext hx12
          refine G.l rfl rfl (.inr rfl) (Nat.le_of_ble_eq_true rfl) ?_
          intro w13 hx13
          replace hR71 := hR71.ext hx13
          replace hS78 := hS78.ext hx13
          replace hB2 := hB2.ext hx13
          replace hB3 := hB3.ext hx13
          replace hB4 := hB4.ext hx13
          replace hE := hE.ext hx13
          replace hEs := hEs.ext hx13
          refine R.append (m := 1) Try.underlying35 Try.underlying35 t3 (by decide) rfl hR71 hS78.row (by simp [cellsOf, Value.cells, Value.oneCell']) rfl rfl (by omega) (by omega) (fun _ b hb => ⟨G.S1_lt (fun _ _ h => h.1) (Nat.le_trans hS0 hEs.size) hb, fun e => G.S1_new (fun _ _ h => h.1) (hv71 b e).1 (hv71 b e).2 hb⟩) ?_
          intro v79 w79 hU79 hS79 hd79
          clear hd79
          replace hB2 := hB2.upS hU79 hR71 (by decide)
          replace hB3 := hB3.upS hU79 hR71 (by decide)
          replace hB4 := hB4.upS hU79 hR71 (by decide)
          replace hE := hE.trans hU79 (fun b hb h => by have := (hv71 b h).1; omega)
          replace hEs := hEs.trans hU79 (fun b hb h => by have := (hv71 b h).1; rw [hh9] at hb; omega)
          have hR79 : SInts _ v79 (xss[b] ++ [xss[a][xss[a].length - 1]]) := SInts.app (ys := [xss[a][xss[a].length - 1]]) (m := 1) (by simpa [cellsOf, Value.cells, ints] using hS79) rfl
          clear hS79 hR71 hS78
          refine R.nil ⟨hU79.size, ?_⟩
          intro K13 hK13 hN13
          replace hk69 := hK13 _ hk69
          replace hk78 := hK13 _ hk78
          replace hv71 := fun b e => And.intro (hv71 b e).1 (hK13 _ (hv71 b e).2)
          refine G.l rfl rfl (.inr rfl) (Nat.le_of_ble_eq_true rfl) ?_
          intro w14 hx14
          replace hR79 := hR79.ext hx14
          replace hB2 := hB2.ext hx14
          replace hB3 := hB3.ext hx14
          replace hB4 := hB4.ext hx14
          replace hE := hE.ext hx14
          replace hEs := hEs.ext hx14
          refine R.callE3 ent68 (rWith _ (hm.ext hE) hR79.row (by omega) hxL (by simp; omega)) rfl rfl rfl (fun _ _ hb => G.S1_lt (fun _ _ h => h.1) (Nat.le_trans hS0 hEs.size) hb) ?_
          rintro v80 w15 hx15 ⟨u80, us80, rfl, hM80, hf80⟩
          replace hR79 := hR79.ext hx15
          replace hB2 := hB2.ext hx15
          replace hB3 := hB3.ext hx15
          replace hB4 := hB4.ext hx15
          replace hE := hE.ext hx15
          replace hEs := hEs.ext hx15
          refine R.nil ⟨hx15.size, ?_⟩
          intro K14 hK14 hN14
          replace hk69 := hK14 _ hk69
          replace hk78 := hK14 _ hk78
          replace hv71 := fun b e => And.intro (hv71 b e).1 (hK14 _ (hv71 b e).2)
          refine G.alloc t54 ?_
          intro w16 b8 K16 hx16 hb8 hn8 hK16 hk8 hB8
          replace hk69 := hK16 _ hk69
          replace hk78 := hK16 _ hk78
          replace hv71 := fun b e => And.intro (hv71 b e).1 (hK16 _ (hv71 b e).2)
          have ne2_8 : b2 ≠ b8 := by have h1 := hB2s.lt; rw [hh9] at h1; omega
          have ne4_8 : b4 ≠ b8 := by have h1 := hB4s.lt; rw [hh9] at h1; omega
          have hn08 := hb8
          replace hb8 := Nat.le_trans hW0 hb8
          replace hR79 := hR79.ext hx16
          replace hM80 := hM80.ext hx16
          replace hB2 := hB2.ext hx16
          replace hB3 := hB3.ext hx16
          replace hB4 := hB4.ext hx16
          replace hE := hE.ext hx16
          replace hEs := hEs.ext hx16
          replace hB8 : Blk _ b8 54 #[.slice none 0 0, .int .i64 0] := hB8
          refine G.l rfl rfl (.inr rfl) (Nat.le_of_ble_eq_true rfl) ?_
          intro w17 hx17
          replace hR79 := hR79.ext hx17
          replace hM80 := hM80.ext hx17
          replace hB2 := hB2.ext hx17
          replace hB3 := hB3.ext hx17
          replace hB4 := hB4.ext hx17
          replace hB8 := hB8.ext hx17
          replace hE := hE.ext hx17
          replace hEs := hEs.ext hx17
          refine R.storeA t54 hB8 rfl rfl rfl rfl (ones2 hM80.outer.one rfl) (fun _ h => G.S1_new (fun _ _ h => h.1) hn08 hk8 h) ?_
          intro w90 hU90 hs90 hN90
          clear hR79
          replace hM80 := hM80.upT hU90 hB8 (by decide)
          replace hB2 := hB2.up hU90 (fun h => ne2_8 h)
          replace hB4 := hB4.up hU90 (fun h => ne4_8 h)
          replace hB3 := hB3.upT hU90 hB8 (by decide)
          replace hE := hE.own hU90 hb8
          replace hB8 : Blk _ b8 54 #[u80, .int .i64 H] := hN90
          refine R.nil ⟨hU90.size, ?_⟩
          intro K17 hK17 hN17
          replace hk69 := hK17 _ hk69
          replace hk78 := hK17 _ hk78
          replace hk8 := hK17 _ hk8
          replace hv71 := fun b e => And.intro (hv71 b e).1 (hK17 _ (hv71 b e).2)
          have hxW : ∀ xs ∈ withL xss (b : Int) (xss[b] ++ [xss[a][xss[a].length - 1]]), xs.length < 1000000 := by
            rw [withL_set hbl]
            intro xs hxs
            rcases List.mem_or_eq_of_mem_set hxs with h1 | h1
            · exact hxL xs h1
            · subst h1; simp; omega
          refine G.nil ?_
          refine E.seq ?_
          refine E.regionW (fun c x => x < w90.heap.size ∧ (c = false → x ≠ b4)) [] mixed rfl (by kernel_rfl) ?_
          intro w18 hx18 hh18
          replace hM80 := hM80.ext hx18
          replace hB2 := hB2.ext hx18
          replace hB3 := hB3.ext hx18
          replace hB4 := hB4.ext hx18
          replace hB8 := hB8.ext hx18
          replace hE := hE.ext hx18
          have hEs : Ext w18 w18 := Upd.refl _
          have hS0 := hx18.size
          have hSB : ∀ b, b < w18.heap.size → b < w90.heap.size ∧ (true = false → (fun x => x ≠ b4) b) := fun b hb => ⟨by rw [hh18] at hb; exact hb, nofun⟩
          have hSA : ∀ b, b < w18.heap.size → (fun x => x ≠ b4) b → b < w90.heap.size ∧ (false = false → (fun x => x ≠ b4) b) := fun b hb h => ⟨by rw [hh18] at hb; exact hb, fun _ => h⟩
          have hSO : ∀ b, b < w.heap.size → b < w90.heap.size ∧ (false = false → (fun x => x ≠ b4) b) := fun b hb => hSA b (Nat.lt_of_lt_of_le hb hE.size) (fun e => by omega)
          have hM80s := hM80
          have hB2s := hB2
          have hB3s := hB3
          have hB4s := hB4
          have hB8s := hB8
          refine R.loadA t54 (hB8s.ext hEs) rfl rfl rfl (hSA b8 hB8s.lt (fun e => ne4_8 e.symm)) ?_
          refine R.fld fa53_0 rfl ?_
          refine R.loadB t3 (hB3s.ext hEs) rfl rfl rfl (hSA b3 hB3s.lt (hB3.ne hB4 (by decide))) ?_
          refine R.move ?_
          refine R.move ?_
          refine R.len Try.underlying35 hr49 rfl ?_
          refine R.subN (n := 1) rfl rfl (by omega) (by omega) ?_
          obtain ⟨a49, c49, hv49, hc49, _⟩ := id hr49
          refine R.slc (l := 0) (r := xss[a].length - 1) Try.underlying35 t3 rfl hv49 rfl ⟨_, rfl⟩ (Nat.zero_le _) (by omega) ?_
          refine R.callE3 ent68 (rWith _ hM80.mat (Ints.take (hr49.ext hE) (by omega)) (by rw [withL_len]; omega) hxW (by simp; omega)) rfl rfl rfl (fun _ _ hb => Nat.lt_of_lt_of_le hb.1 (Nat.le_trans hS0 hEs.size)) ?_
          rintro v89 w19 hx19 ⟨u89, us89, rfl, hM89, hf89⟩
          replace hM80 := hM80.ext hx19
          replace hB2 := hB2.ext hx19
          replace hB3 := hB3.ext hx19
          replace hB4 := hB4.ext hx19
          replace hB8 := hB8.ext hx19
          replace hE := hE.ext hx19
          replace hEs := hEs.ext hx19
          refine R.storeA t54 hB4 rfl rfl rfl rfl (ones2 hM89.outer.one rfl) (fun _ h => h.2 rfl rfl) ?_
          intro w91 hU91 hs91 hN91
          replace hM89 := hM89.upT hU91 hB4 (by decide)
          replace hE := hE.own hU91 hb4
          replace hB4 : Blk _ b4 54 #[u89, .int .i64 H] := hN91
          refine R.assign ?_
          refine R.nil ?_
          refine E.ret ?_
          refine retA1 (.int .i64 0) t54 hB4 rfl rfl rfl rfl ⟨_, rfl, hE, ?_⟩
          have e1 : shiftL xss H a b = ((xss.set b (xss[b] ++ [xss[a][xss[a].length - 1]])).set a xss[a].dropLast, 0) := by
            simp only [shiftL]
            rw [if_neg (by omega), if_neg hc42, Int.toNat_natCast, Int.toNat_natCast, hga, hgb, if_neg (by omega), if_neg (by omega)]
            rw [List.getD_eq_getElem?_getD, List.getElem?_eq_getElem (show xss[a].length - 1 < xss[a].length by omega)]
            rfl
          rw [show shiftR xss H a b = ((xss.set b (xss[b] ++ [xss[a][xss[a].length - 1]])).set a xss[a].dropLast, (H : Int), 0) by simp [shiftR, hR, e1]]
          rw [withL_set (by rw [withL_len]; exact hal), withL_set hbl, ← List.dropLast_eq_take] at hM89
          exact ⟨_, _, rfl, hM89⟩
  · refine calls_E (args := [.agg #[v, .int .i64 h], .agg #[.int .i64 f, .int .i64 t]]) 90 Try.func58 rfl rfl (by simp) ?_
    have hE : Ext w w := Upd.refl w
    refine E.seq ?_
    refine E.regionP rfl ?_
    refine R.box rfl nofun ?_
    intro b2 w1 hb2 hx1 hB2
    replace hb2 := Nat.le_trans hE.size hb2
    replace hE := hE.ext hx1
    replace hB2 : Blk _ b2 54 #[v, .int .i64 h] := hB2
    refine R.box rfl nofun ?_
    intro b3 w2 hb3 hx2 hB3
    replace hb3 := Nat.le_trans hE.size hb3
    replace hB2 := hB2.ext hx2
    replace hE := hE.ext hx2
    replace hB3 : Blk _ b3 53 #[.int .i64 f, .int .i64 t] := hB3
    refine R.alloc t54 nofun ?_
    intro b4 w3 hb4 hx3 hB4
    have ne2_4 : b2 ≠ b4 := by have := hB2.lt; omega
    replace hb4 := Nat.le_trans hE.size hb4
    replace hB2 := hB2.ext hx3
    replace hB3 := hB3.ext hx3
    replace hE := hE.ext hx3
    replace hB4 : Blk _ b4 54 #[.slice none 0 0, .int .i64 0] := hB4
    refine R.assign ?_
    refine R.nil ?_
    refine E.seq ?_
    refine E.seq ?_
    refine E.regionP rfl ?_
    refine R.loadA t54 hB2 rfl rfl rfl trivial ?_
    refine R.callE1 ent55 (rRight _ (hm.ext hE) hl hx) rfl nofun ?_
    rintro v10 w4 hx4 rfl
    rw [hR]
    replace hB2 := hB2.ext hx4
    replace hB3 := hB3.ext hx4
    replace hB4 := hB4.ext hx4
    replace hE := hE.ext hx4
    refine R.not rfl ?_
    refine R.nil ?_
    refine E.condT rfl ?_
    refine E.seq ?_
    refine E.regionP rfl ?_
    refine R.build build54_0 rfl ?_
    refine R.storeA t54 hB4 rfl rfl rfl rfl (ones2 rfl rfl) nofun ?_
    intro w5 hU5 hs5 hN5
    replace hB2 := hB2.up hU5 (fun h => ne2_4 h)
    replace hB3 := hB3.upT hU5 hB4 (by decide)
    replace hE := hE.own hU5 hb4
    replace hB4 : Blk _ b4 54 #[.slice none 0 0, .int .i64 0] := hN5
    clear hN5
    refine R.assign ?_
    refine R.nil ?_
    refine E.ret ?_
    refine retA1 (.int .i64 2) t54 hB4 rfl rfl rfl rfl ⟨_, rfl, hE, ?_⟩
    rw [show shiftR xss h f t = ([], 0, 2) by simp [shiftR, hR]]
    exact RRes.zero
end Go.Proofs.Ytfdmndkoiheebaa
