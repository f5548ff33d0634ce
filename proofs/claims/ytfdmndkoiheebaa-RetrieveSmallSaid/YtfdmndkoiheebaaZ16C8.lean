import Derived.Test.YtfdmndkoiheebaaZ16C6
import Derived.Test.YtfdmndkoiheebaaZ16C4
namespace Go.Proofs.Ytfdmndkoiheebaa
open Go Go.RowKit
theorem Ints.take {w : World} {v : Value} {xs : List Int} (h : Ints w v xs) {k : Nat} (hk : k ≤ xs.length) : Ints w (cut 1 v 0 k) (xs.take k) := by
  have := h.cut (l := 0) (r := k) (Nat.zero_le _) hk
  show Row w 1 _ (xs.take k).length _
  have e : ((ints xs).drop (0 * 1)).take ((k - 0) * 1) = ints (xs.take k) := by simp [ints, List.map_take]
  rw [e, Nat.sub_zero] at this
  rw [List.length_take, Nat.min_eq_left hk]
  exact this
def RRes (w' : World) (r : Value) (p : List (List Int) × Int × Int) : Prop := ∃ u us, r = .tuple #[.agg #[u, .int .i64 p.2.1], .int .i64 p.2.2] ∧ MO w' u us p.1
theorem RRes.zero {w' : World} {e : Int} : RRes w' (.tuple #[.agg #[.slice none 0 0, .int .i64 0], .int .i64 e]) ([], 0, e) := ⟨_, _, rfl, MO.nil _⟩
theorem rAboveE (w : World) {v : Value} {h b : Int} {us : List Value} {xss : List (List Int)} (hm : Mat w v us xss) (hl : xss.length < 100000) (hx : ∀ xs ∈ xss, xs.length ≤ 10) {l : List Int} {e : Int} (hp : aboveL xss h b = (l, e)) :
    Calls Try.prog 53 #[.agg #[v, .int .i64 h], .int .i64 b] w (Ret fun r w' => Ext w w' ∧ ∃ u, r = .tuple #[u, .int .i64 e] ∧ SInts w' u l ∧ Fresh w u) := by
  have h := rAbove w (h := h) (b := b) hm hl hx
  rw [hp] at h
  exact h
theorem withL_set {xss : List (List Int)} {i : Nat} {bs : List Int} (hi : i < xss.length) : withL xss (i : Int) bs = xss.set i bs := by simp [withL, hi]
theorem rTake (w : World) {v : Value} {h b : Int} {us : List Value} {xss : List (List Int)} (hm : Mat w v us xss) (hl : xss.length < 100000) (hx : ∀ xs ∈ xss, xs.length ≤ 10) :
    Calls Try.prog 59 #[.agg #[v, .int .i64 h], .int .i64 b] w (Ret fun r w' => Ext w w' ∧ RRes w' r (takeR xss h b)) := by
  have hx6 : ∀ xs ∈ xss, xs.length < 1000000 := fun xs h => by have := hx xs h; omega
  cases hR : rightB xss h
  rotate_left
  rcases hF : findL xss b with _ | ⟨i, k⟩
  rotate_left
  obtain ⟨hi, hk, hbk, hn⟩ := findL_some hF
  have hxi := hx _ (List.getElem_mem hi)
  have hgi : xss.getD i [] = xss[i] := by simp [hi]
  by_cases hu : k + 1 < xss[i].length
  · have hp : aboveL xss h b = ((xss[i].drop (k + 1)).reverse, 0) := by simp [aboveL, hR, hF, hi]
    refine calls_E (args := [.agg #[v, .int .i64 h], .int .i64 b]) 42 Try.func59 rfl rfl (by simp) ?_
    have hE : Ext w w := Upd.refl w
    refine E.seq ?_
    refine E.regionP rfl ?_
    refine R.box rfl nofun ?_
    intro b2 w1 hb2 hx1 hB2
    replace hb2 := Nat.le_trans hE.size hb2
    replace hE := hE.ext hx1
    replace hB2 : Blk _ b2 54 #[v, .int .i64 h] := hB2
    refine R.alloc t54 nofun ?_
    intro b4 w2 hb4 hx2 hB4
    have ne2_4 : b2 ≠ b4 := by have := hB2.lt; omega
    replace hb4 := Nat.le_trans hE.size hb4
    replace hB2 := hB2.ext hx2
    replace hE := hE.ext hx2
    replace hB4 : Blk _ b4 54 #[.slice none 0 0, .int .i64 0] := hB4
    refine R.assign ?_
    refine R.nil ?_
    refine E.seq ?_
    refine E.regionP rfl ?_
    refine R.loadA t54 hB2 rfl rfl rfl trivial ?_
    refine R.move ?_
    refine R.callE2 ent53 (rAboveE _ (hm.ext hE) hl hx hp) rfl rfl nofun ?_
    rintro v14 w3 hx3 ⟨u14, rfl, hS14, hf14⟩
    replace hB2 := hB2.ext hx3
    replace hB4 := hB4.ext hx3
    replace hE := hE.ext hx3
    refine R.move ?_
    refine R.extract rfl rfl ?_
    refine R.extract rfl rfl ?_
    refine R.assign ?_
    refine R.assign ?_
    refine R.nil ?_
    refine E.seq ?_
    refine E.seq ?_
    refine E.regionP rfl ?_
    refine R.move ?_
    refine R.neq (b := false) rfl rfl (by decide) ?_
    refine R.nil ?_
    refine E.condF rfl ?_
    refine E.skip ?_
    refine E.seq ?_
    refine E.seq ?_
    refine E.regionP rfl ?_
    refine R.move ?_
    refine R.len Try.underlying35 hS14.row rfl ?_
    refine R.gtr (b := true) rfl rfl (decide_eq_true (by simp; omega)) ?_
    refine R.nil ?_
    refine E.condT rfl ?_
    refine E.seq ?_
    refine E.regionP rfl ?_
    refine R.build build54_0 rfl ?_
    refine R.storeA t54 hB4 rfl rfl rfl rfl (ones2 rfl rfl) nofun ?_
    intro w4 hU4 hs4 hN4
    replace hS14 := hS14.upT hU4 hB4 (by decide)
    replace hB2 := hB2.up hU4 (fun h => ne2_4 h)
    replace hE := hE.own hU4 hb4
    replace hB4 : Blk _ b4 54 #[.slice none 0 0, .int .i64 0] := hN4
    clear hN4
    refine R.assign ?_
    refine R.nil ?_
    refine E.ret ?_
    refine retA1 (.int .i64 342) t54 hB4 rfl rfl rfl rfl ⟨_, rfl, hE, ?_⟩
    rw [show takeR xss h b = ([], 0, 342) by simp only [takeR, hR, hF, hgi]; rw [if_neg (by simp), if_pos hu]]
    exact RRes.zero
  · have hp : aboveL xss h b = ((xss[i].drop (k + 1)).reverse, 0) := by simp [aboveL, hR, hF, hi]
    have hr0 : findV xss b = .tuple #[.int .i64 i, .int .i64 k, .bool true] := by simp [findV, hF]
    refine calls_E (args := [.agg #[v, .int .i64 h], .int .i64 b]) 42 Try.func59 rfl rfl (by simp) ?_
    have hE : Ext w w := Upd.refl w
    refine E.seq ?_
    refine E.regionP rfl ?_
    refine R.box rfl nofun ?_
    intro b2 w1 hb2 hx1 hB2
    replace hb2 := Nat.le_trans hE.size hb2
    replace hE := hE.ext hx1
    replace hB2 : Blk _ b2 54 #[v, .int .i64 h] := hB2
    refine R.alloc t54 nofun ?_
    intro b4 w2 hb4 hx2 hB4
    have ne2_4 : b2 ≠ b4 := by have := hB2.lt; omega
    replace hb4 := Nat.le_trans hE.size hb4
    replace hB2 := hB2.ext hx2
    replace hE := hE.ext hx2
    replace hB4 : Blk _ b4 54 #[.slice none 0 0, .int .i64 0] := hB4
    refine R.assign ?_
    refine R.nil ?_
    refine E.seq ?_
    refine E.regionP rfl ?_
    refine R.loadA t54 hB2 rfl rfl rfl trivial ?_
    refine R.move ?_
    refine R.callE2 ent53 (rAboveE _ (hm.ext hE) hl hx hp) rfl rfl nofun ?_
    rintro v14 w3 hx3 ⟨u14, rfl, hS14, hf14⟩
    replace hB2 := hB2.ext hx3
    replace hB4 := hB4.ext hx3
    replace hE := hE.ext hx3
    refine R.move ?_
    refine R.extract rfl rfl ?_
    refine R.extract rfl rfl ?_
    refine R.assign ?_
    refine R.assign ?_
    refine R.nil ?_
    refine E.seq ?_
    refine E.seq ?_
    refine E.regionP rfl ?_
    refine R.move ?_
    refine R.neq (b := false) rfl rfl (by decide) ?_
    refine R.nil ?_
    refine E.condF rfl ?_
    refine E.skip ?_
    refine E.seq ?_
    refine E.seq ?_
    refine E.regionP rfl ?_
    refine R.move ?_
    refine R.len Try.underlying35 hS14.row rfl ?_
    refine R.gtr (b := false) rfl rfl (decide_eq_false (by simp; omega)) ?_
    refine R.nil ?_
    refine E.condF rfl ?_
    refine E.skip ?_
    refine E.seq ?_
    refine E.regionP rfl ?_
    refine R.loadA t54 hB2 rfl rfl rfl trivial ?_
    refine R.move ?_
    refine R.callE2 ent52 (rFindE _ (hm.ext hE) (by omega) hx6 hr0) rfl rfl nofun ?_
    rintro v28 w4 hx4 rfl
    replace hS14 := hS14.ext hx4
    replace hB2 := hB2.ext hx4
    replace hB4 := hB4.ext hx4
    replace hE := hE.ext hx4
    refine R.move ?_
    refine R.extract rfl rfl ?_
    refine R.extract rfl rfl ?_
    refine R.extract rfl rfl ?_
    refine R.assign ?_
    refine R.assign ?_
    refine R.assign ?_
    refine R.nil ?_
    refine E.seq ?_
    refine E.regionW (fun c x => x < w4.heap.size ∧ (c = false → x ≠ b4)) [] mixed rfl (by kernel_rfl) ?_
    intro w5 hx5 hh5
    replace hS14 := hS14.ext hx5
    replace hB2 := hB2.ext hx5
    replace hB4 := hB4.ext hx5
    replace hE := hE.ext hx5
    have hEs : Ext w5 w5 := Upd.refl _
    have hS0 := hx5.size
    have hSB : ∀ b, b < w5.heap.size → b < w4.heap.size ∧ (true = false → (fun x => x ≠ b4) b) := fun b hb => ⟨by rw [hh5] at hb; exact hb, nofun⟩
    have hSA : ∀ b, b < w5.heap.size → (fun x => x ≠ b4) b → b < w4.heap.size ∧ (false = false → (fun x => x ≠ b4) b) := fun b hb h => ⟨by rw [hh5] at hb; exact hb, fun _ => h⟩
    have hSO : ∀ b, b < w.heap.size → b < w4.heap.size ∧ (false = false → (fun x => x ≠ b4) b) := fun b hb => hSA b (Nat.lt_of_lt_of_le hb hE.size) (fun e => by omega)
    have hS14s := hS14
    have hB2s := hB2
    have hB4s := hB4
    refine R.loadA t54 (hB2s.ext hEs) rfl rfl rfl (hSA b2 hB2s.lt (ne2_4)) ?_
    refine R.move ?_
    refine R.fld fa54_0 rfl ?_
    refine R.loadB t22 (hB2s.ext hEs) rfl rfl rfl (hSA b2 hB2s.lt (ne2_4)) ?_
    refine R.move ?_
    refine R.ix Try.underlying22 t35 (by decide) hm.row rfl rfl hi ?_
    obtain ⟨u38, hu38, hr38⟩ := hm.get i (by omega)
    refine R.ldE t35 hm.row hE rfl hu38 rfl hSO ?_
    refine R.move ?_
    obtain ⟨a38, c38, hv38, hc38, _⟩ := id hr38
    refine R.slc (l := 0) (r := k) Try.underlying35 t3 rfl hv38 rfl ⟨_, rfl⟩ (Nat.zero_le _) (by omega) ?_
    refine R.callE3 ent68 (rWith _ (hm.ext hE) (Ints.take (hr38.ext hE) (by omega)) (by omega) hx6 (by simp; omega)) rfl rfl rfl (fun _ _ hb => Nat.lt_of_lt_of_le hb.1 (Nat.le_trans hS0 hEs.size)) ?_
    rintro v41 w6 hx6 ⟨u41, us41, rfl, hM41, hf41⟩
    replace hS14 := hS14.ext hx6
    replace hB2 := hB2.ext hx6
    replace hB4 := hB4.ext hx6
    replace hE := hE.ext hx6
    replace hEs := hEs.ext hx6
    refine R.storeA t54 hB4 rfl rfl rfl rfl (ones2 hM41.outer.one rfl) (fun _ h => h.2 rfl rfl) ?_
    intro w50 hU50 hs50 hN50
    replace hM41 := hM41.upT hU50 hB4 (by decide)
    replace hE := hE.own hU50 hb4
    replace hB4 : Blk _ b4 54 #[u41, .int .i64 h] := hN50
    refine R.assign ?_
    refine R.nil ?_
    refine E.ret ?_
    refine retA1 (.int .i64 0) t54 hB4 rfl rfl rfl rfl ⟨_, rfl, hE, ?_⟩
    rw [show takeR xss h b = (xss.set i (xss[i].take k), h, 0) by simp only [takeR, hR, hF, hgi]; rw [if_neg (by simp), if_neg hu]]
    rw [withL_set hi] at hM41
    exact ⟨_, _, rfl, hM41⟩
  · have hp : aboveL xss h b = ([], 2) := by simp [aboveL, hR]
    refine calls_E (args := [.agg #[v, .int .i64 h], .int .i64 b]) 42 Try.func59 rfl rfl (by simp) ?_
    have hE : Ext w w := Upd.refl w
    refine E.seq ?_
    refine E.regionP rfl ?_
    refine R.box rfl nofun ?_
    intro b2 w1 hb2 hx1 hB2
    replace hb2 := Nat.le_trans hE.size hb2
    replace hE := hE.ext hx1
    replace hB2 : Blk _ b2 54 #[v, .int .i64 h] := hB2
    refine R.alloc t54 nofun ?_
    intro b4 w2 hb4 hx2 hB4
    have ne2_4 : b2 ≠ b4 := by have := hB2.lt; omega
    replace hb4 := Nat.le_trans hE.size hb4
    replace hB2 := hB2.ext hx2
    replace hE := hE.ext hx2
    replace hB4 : Blk _ b4 54 #[.slice none 0 0, .int .i64 0] := hB4
    refine R.assign ?_
    refine R.nil ?_
    refine E.seq ?_
    refine E.regionP rfl ?_
    refine R.loadA t54 hB2 rfl rfl rfl trivial ?_
    refine R.move ?_
    refine R.callE2 ent53 (rAboveE _ (hm.ext hE) hl hx hp) rfl rfl nofun ?_
    rintro v14 w3 hx3 ⟨u14, rfl, hS14, hf14⟩
    replace hB2 := hB2.ext hx3
    replace hB4 := hB4.ext hx3
    replace hE := hE.ext hx3
    refine R.move ?_
    refine R.extract rfl rfl ?_
    refine R.extract rfl rfl ?_
    refine R.assign ?_
    refine R.assign ?_
    refine R.nil ?_
    refine E.seq ?_
    refine E.seq ?_
    refine E.regionP rfl ?_
    refine R.move ?_
    refine R.neq (b := true) rfl rfl (by decide) ?_
    refine R.nil ?_
    refine E.condT rfl ?_
    refine E.seq ?_
    refine E.regionP rfl ?_
    refine R.build build54_0 rfl ?_
    refine R.move ?_
    refine R.storeA t54 hB4 rfl rfl rfl rfl (ones2 rfl rfl) nofun ?_
    intro w4 hU4 hs4 hN4
    replace hS14 := hS14.upT hU4 hB4 (by decide)
    replace hB2 := hB2.up hU4 (fun h => ne2_4 h)
    replace hE := hE.own hU4 hb4
    replace hB4 : Blk _ b4 54 #[.slice none 0 0, .int .i64 0] := hN4
    clear hN4
    refine R.assign ?_
    refine R.nil ?_
    refine E.ret ?_
    refine retA1 (.int .i64 2) t54 hB4 rfl rfl rfl rfl ⟨_, rfl, hE, ?_⟩
    rw [show takeR xss h b = ([], 0, 2) by simp [takeR, hR]]
    exact RRes.zero
  · have hp : aboveL xss h b = ([], 6) := by simp [aboveL, hR, hF]
    refine calls_E (args := [.agg #[v, .int .i64 h], .int .i64 b]) 42 Try.func59 rfl rfl (by simp) ?_
    have hE : Ext w w := Upd.refl w
    refine E.seq ?_
    refine E.regionP rfl ?_
    refine R.box rfl nofun ?_
    intro b2 w1 hb2 hx1 hB2
    replace hb2 := Nat.le_trans hE.size hb2
    replace hE := hE.ext hx1
    replace hB2 : Blk _ b2 54 #[v, .int .i64 h] := hB2
    refine R.alloc t54 nofun ?_
    intro b4 w2 hb4 hx2 hB4
    have ne2_4 : b2 ≠ b4 := by have := hB2.lt; omega
    replace hb4 := Nat.le_trans hE.size hb4
    replace hB2 := hB2.ext hx2
    replace hE := hE.ext hx2
    replace hB4 : Blk _ b4 54 #[.slice none 0 0, .int .i64 0] := hB4
    refine R.assign ?_
    refine R.nil ?_
    refine E.seq ?_
    refine E.regionP rfl ?_
    refine R.loadA t54 hB2 rfl rfl rfl trivial ?_
    refine R.move ?_
    refine R.callE2 ent53 (rAboveE _ (hm.ext hE) hl hx hp) rfl rfl nofun ?_
    rintro v14 w3 hx3 ⟨u14, rfl, hS14, hf14⟩
    replace hB2 := hB2.ext hx3
    replace hB4 := hB4.ext hx3
    replace hE := hE.ext hx3
    refine R.move ?_
    refine R.extract rfl rfl ?_
    refine R.extract rfl rfl ?_
    refine R.assign ?_
    refine R.assign ?_
    refine R.nil ?_
    refine E.seq ?_
    refine E.seq ?_
    refine E.regionP rfl ?_
    refine R.move ?_
    refine R.neq (b := true) rfl rfl (by decide) ?_
    refine R.nil ?_
    refine E.condT rfl ?_
    refine E.seq ?_
    refine E.regionP rfl ?_
    refine R.build build54_0 rfl ?_
    refine R.move ?_
    refine R.storeA t54 hB4 rfl rfl rfl rfl (ones2 rfl rfl) nofun ?_
    intro w4 hU4 hs4 hN4
    replace hS14 := hS14.upT hU4 hB4 (by decide)
    replace hB2 := hB2.up hU4 (fun h => ne2_4 h)
    replace hE := hE.own hU4 hb4
    replace hB4 : Blk _ b4 54 #[.slice none 0 0, .int .i64 0] := hN4
    clear hN4
    refine R.assign ?_
    refine R.nil ?_
    refine E.ret ?_
    refine retA1 (.int .i64 6) t54 hB4 rfl rfl rfl rfl ⟨_, rfl, hE, ?_⟩
    rw [show takeR xss h b = ([], 0, 6) by simp [takeR, hR, hF]]
    exact RRes.zero
end Go.Proofs.Ytfdmndkoiheebaa
