import Derived.Test.YtfdmndkoiheebaaZ10C2
import Derived.Test.YtfdmndkoiheebaaZ10B6
namespace Go.Proofs.Ytfdmndkoiheebaa
open Go Go.RowKit
def YO (w w' : World) (v : Value) (h : Int) (xss : List (List Int)) : Prop :=
  (v = .slice none 0 0 ∧ h = 0 ∧ xss = []) ∨ ∃ (H ba : Nat) (us : List Value) (cur : Array Value), h = H ∧ PY w' v H ba us cur xss ∧ Fresh w v ∧ w.heap.size ≤ ba
theorem YO.mat {w w' : World} {v : Value} {h : Int} {xss : List (List Int)} (y : YO w w' v h xss) : ∃ us, Mat w' v us xss := by
  rcases y with ⟨rfl, _, rfl⟩ | ⟨H, ba, us, cur, _, hP, _⟩
  · exact ⟨[], (Sl.nil _ 35 _).row, fun i h => by simp at h⟩
  · exact ⟨us, hP.mat⟩
theorem YO.one' {w w' : World} {v : Value} {h : Int} {xss : List (List Int)} (y : YO w w' v h xss) : v.oneCell' = true := by
  obtain ⟨us, h⟩ := y.mat
  exact h.row.one
theorem YO.ext {w w' w'' : World} {v : Value} {h : Int} {xss : List (List Int)} (y : YO w w' v h xss) (u : Ext w' w'') : YO w w'' v h xss := by
  rcases y with y | ⟨H, ba, us, cur, hh, hP, hr⟩
  · exact .inl y
  · exact .inr ⟨H, ba, us, cur, hh, hP.ext u, hr⟩
theorem YO.mono {w0 w w' : World} {v : Value} {h : Int} {xss : List (List Int)} (y : YO w w' v h xss) (u : w0.heap.size ≤ w.heap.size) : YO w0 w' v h xss := by
  rcases y with y | ⟨H, ba, us, cur, hh, hP, hf, hb⟩
  · exact .inl y
  · exact .inr ⟨H, ba, us, cur, hh, hP, hf.mono u, Nat.le_trans u hb⟩
theorem YO.upT {w w' w'' : World} {v : Value} {h : Int} {xss : List (List Int)} {b : Nat} {cs : Array Value} {ty : TypeId} (y : YO w w' v h xss) (u : Upd (one b) w' w'') (hb : Blk w' b ty cs) (hne : 35 ≠ ty ∧ 3 ≠ ty) : YO w w'' v h xss := by
  rcases y with y | ⟨H, ba, us, cur, hh, hP, hr⟩
  · exact .inl y
  · exact .inr ⟨H, ba, us, cur, hh, hP.upT u hb hne, hr⟩
def YRes (w w' : World) (r : Value) (p : List (List Int) × Int × Int) : Prop := ∃ u, r = .tuple #[.agg #[u, .int .i64 p.2.1], .int .i64 p.2.2] ∧ YO w w' u p.2.1 p.1
theorem YRes.zero {w w' : World} {e : Int} : YRes w w' (.tuple #[.agg #[.slice none 0 0, .int .i64 0], .int .i64 e]) ([], 0, e) := ⟨_, rfl, .inl ⟨rfl, rfl, rfl⟩⟩
def shiftR (xss : List (List Int)) (h f t : Int) : List (List Int) × Int × Int :=
  if rightB xss h = false then ([], 0, 2) else if (shiftL xss h.toNat f t).2 = 0 then ((shiftL xss h.toNat f t).1, h, 0) else ([], 0, (shiftL xss h.toNat f t).2)
def takeR (xss : List (List Int)) (h b : Int) : List (List Int) × Int × Int :=
  if rightB xss h = false then ([], 0, 2) else match findL xss b with
  | none => ([], 0, 6)
  | some (i, k) => if k + 1 < (xss.getD i []).length then ([], 0, 342) else (xss.set i ((xss.getD i []).take k), h, 0)
def putR (xss : List (List Int)) (h b s : Int) : List (List Int) × Int × Int :=
  if rightB xss h = false ∨ b < 1 ∨ 999999 < b then ([], 0, 2)
  else if (findL xss b).isSome then ([], 0, 343)
  else if s < 0 ∨ (xss.length : Int) ≤ s then ([], 0, 6)
  else if ((xss.getD s.toNat []).length : Int) = h then ([], 0, 4)
  else (xss.set s.toNat (xss.getD s.toNat [] ++ [b]), h, 0)
theorem PY.trunc {w w' : World} {v : Value} {H ba : Nat} {us : List Value} {cur : Array Value} {xss : List (List Int)} {a k : Nat} (h : PY w v H ba us cur xss) (ha : a < xss.length) (hk : k ≤ xss[a].length) (ho : Sl w' 35 1 v xss.length (us.set a (.slice (some ⟨ba, a * H, none⟩) k H)))
    (hB : Blk w' ba 3 cur) : PY w' v H ba (us.set a (.slice (some ⟨ba, a * H, none⟩) k H)) cur (xss.set a (xss[a].take k)) := by
  have hul := h.outer.len
  refine ⟨by rw [List.length_set]; exact ho, hB, by rw [List.length_set]; exact h.size, fun i hi => ?_⟩
  rw [List.length_set] at hi
  obtain ⟨h1, h2, h3⟩ := h.elems i hi
  by_cases hib : a = i
  · subst hib
    have e0 : (xss.set a (xss[a].take k))[a]'(by rw [List.length_set]; exact hi) = xss[a].take k := List.getElem_set_self _
    simp only [e0, List.length_take, Nat.min_eq_left hk]
    refine ⟨by rw [List.getElem?_set_self (by omega)], by omega, fun j hj => ?_⟩
    rw [h3 j (by omega), List.getElem_take]
  · have e1 : (xss.set a (xss[a].take k))[i]'(by rw [List.length_set]; exact hi) = xss[i] := List.getElem_set_ne hib _
    simp only [e1]
    exact ⟨by rw [List.getElem?_set_ne hib]; exact h1, h2, h3⟩
theorem rightB_nat {xss : List (List Int)} {h : Int} (hR : rightB xss h = true) : ∃ H : Nat, h = H ∧ 1 ≤ H ∧ H ≤ 6 ∧ xss.length ≤ 30 ∧ 1 ≤ xss.length ∧ ∀ xs ∈ xss, xs.length ≤ H := by
  obtain ⟨h1, h2, h3, h4, h5, _⟩ := rightB_true.1 hR
  exact ⟨h.toNat, by omega, by omega, by omega, h4, h3, fun xs hx => by have := h5 xs hx; omega⟩
theorem yShift (w : World) {v : Value} {h f t : Int} {us : List Value} {xss : List (List Int)} (hm : Mat w v us xss) (hl : xss.length < 1000000) (hx : ∀ xs ∈ xss, xs.length < 1000000) :
    Calls Try.prog 36 #[.agg #[v, .int .i64 h], .agg #[.int .i64 f, .int .i64 t]] w (Ret fun r w' => Ext w w' ∧ YRes w w' r (shiftR xss h f t)) := by
  cases hR : rightB xss h
  rotate_left
  · obtain ⟨H, rfl, hH0, hH6, hl30, hl1, hxH⟩ := rightB_nat hR
    refine calls_E (args := [.agg #[v, .int .i64 H], .agg #[.int .i64 f, .int .i64 t]]) 22 Try.func36 rfl rfl (by simp) ?_
    have hE : Ext w w := Upd.refl w
    refine E.seq ?_
    refine E.regionP rfl ?_
    refine R.box rfl nofun ?_
    intro b2 w1 hb2 hx1 hB2
    replace hb2 := Nat.le_trans hE.size hb2
    replace hE := hE.ext hx1
    replace hB2 : Blk _ b2 24 #[v, .int .i64 H] := hB2
    refine R.box rfl nofun ?_
    intro b3 w2 hb3 hx2 hB3
    replace hb3 := Nat.le_trans hE.size hb3
    replace hB2 := hB2.ext hx2
    replace hE := hE.ext hx2
    replace hB3 : Blk _ b3 30 #[.int .i64 f, .int .i64 t] := hB3
    refine R.alloc t24 nofun ?_
    intro b4 w3 hb4 hx3 hB4
    have ne2_4 : b2 ≠ b4 := by have := hB2.lt; omega
    replace hb4 := Nat.le_trans hE.size hb4
    replace hB2 := hB2.ext hx3
    replace hB3 := hB3.ext hx3
    replace hE := hE.ext hx3
    replace hB4 : Blk _ b4 24 #[.slice none 0 0, .int .i64 0] := hB4
    refine R.assign ?_
    refine R.nil ?_
    refine E.seq ?_
    refine E.seq ?_
    refine E.regionP rfl ?_
    refine R.loadA t24 hB2 rfl rfl rfl trivial ?_
    refine R.callE1 ent27 (right _ (hm.ext hE) hl hx) rfl nofun ?_
    rintro v9 w4 hx4 rfl
    rw [hR]
    replace hB2 := hB2.ext hx4
    replace hB3 := hB3.ext hx4
    replace hB4 := hB4.ext hx4
    replace hE := hE.ext hx4
    refine R.not rfl ?_
    refine R.nil ?_
    refine E.condF rfl ?_
    refine E.skip ?_
    refine E.seq ?_
    refine E.regionP rfl ?_
    refine R.loadA t24 hB2 rfl rfl rfl trivial ?_
    refine R.callE1 ent64 (copied _ (hm.ext hE) hH0 hH6 hl30 hxH) rfl nofun ?_
    rintro v13 w5 hx5 ⟨u13, ba13, us13, cur13, rfl, hP13, hf13, hba13⟩
    replace hf13 := hf13.mono hE.size
    replace hba13 := Nat.le_trans hE.size hba13
    replace hB2 := hB2.ext hx5
    replace hB3 := hB3.ext hx5
    replace hB4 := hB4.ext hx5
    replace hE := hE.ext hx5
    refine R.alloc t24 nofun ?_
    intro b6 w6 hb6 hx6 hB6
    have ne2_6 : b2 ≠ b6 := by have := hB2.lt; omega
    have ne4_6 : b4 ≠ b6 := by have := hB4.lt; omega
    replace hb6 := Nat.le_trans hE.size hb6
    replace hP13 := hP13.ext hx6
    replace hB2 := hB2.ext hx6
    replace hB3 := hB3.ext hx6
    replace hB4 := hB4.ext hx6
    replace hE := hE.ext hx6
    replace hB6 : Blk _ b6 24 #[.slice none 0 0, .int .i64 0] := hB6
    refine R.storeA t24 hB6 rfl rfl rfl rfl (ones2 hP13.outer.one rfl) nofun ?_
    intro w7 hU7 hs7 hN7
    replace hP13 := hP13.upT hU7 hB6 (by decide)
    replace hB2 := hB2.up hU7 (fun h => ne2_6 h)
    replace hB3 := hB3.upT hU7 hB6 (by decide)
    replace hB4 := hB4.up hU7 (fun h => ne4_6 h)
    replace hE := hE.own hU7 hb6
    replace hB6 : Blk _ b6 24 #[u13, .int .i64 H] := hN7
    clear hN7
    refine R.nil ?_
    refine E.seq ?_
    refine E.seq ?_
    refine E.regionP rfl ?_
    refine R.loadA t24 hB6 rfl rfl rfl trivial ?_
    refine R.loadA t30 hB3 rfl rfl rfl trivial ?_
    refine R.call2 ent67 (shift _ hP13 hH6 hl30) rfl rfl ?_
    rintro v16 w16 ⟨xss', us', cur', rfl, hU16, hxs', hP16⟩
    refine ⟨nofun, ?_⟩
    replace hB2 := hB2.up hU16 (fun h => h.elim (hB2.ne hP13.all (by decide)) (hB2.ne_vblk hP13.outer (by decide)))
    replace hB3 := hB3.up hU16 (fun h => h.elim (hB3.ne hP13.all (by decide)) (hB3.ne_vblk hP13.outer (by decide)))
    replace hB4 := hB4.up hU16 (fun h => h.elim (hB4.ne hP13.all (by decide)) (hB4.ne_vblk hP13.outer (by decide)))
    replace hB6 := hB6.up hU16 (fun h => h.elim (hB6.ne hP13.all (by decide)) (hB6.ne_vblk hP13.outer (by decide)))
    replace hE := hE.trans hU16 (fun b hb h => by rcases h with rfl | h; (· omega); (· have := hf13 b h; omega))
    refine R.assign ?_
    refine R.nil ?_
    refine E.seq ?_
    refine E.regionP rfl ?_
    refine R.move ?_
    refine R.neq rfl rfl rfl ?_
    refine R.nil ?_
    refine E.cond rfl (fun hc18 => ?_) (fun hc18 => ?_)
    · replace hc18 := nT hc18
      refine E.seq ?_
      refine E.regionP rfl ?_
      refine R.build build24_0 rfl ?_
      refine R.move ?_
      refine R.storeA t24 hB4 rfl rfl rfl rfl (ones2 rfl rfl) nofun ?_
      intro w8 hU8 hs8 hN8
      replace hP16 := hP16.upT hU8 hB4 (by decide)
      replace hB2 := hB2.up hU8 (fun h => ne2_4 h)
      replace hB3 := hB3.upT hU8 hB4 (by decide)
      replace hB6 := hB6.up hU8 (fun h => ne4_6 h.symm)
      replace hE := hE.own hU8 hb4
      replace hB4 : Blk _ b4 24 #[.slice none 0 0, .int .i64 0] := hN8
      clear hN8
      refine R.assign ?_
      refine R.nil ?_
      refine E.ret ?_
      refine retA1 (.int .i64 (shiftL xss H f t).2) t24 hB4 rfl rfl rfl rfl ⟨_, rfl, hE, ?_⟩
      rw [show shiftR xss H f t = ([], 0, (shiftL xss H f t).2) by simp [shiftR, hR, hc18]]
      exact YRes.zero
    · replace hc18 := nF hc18
      refine E.skip ?_
      refine E.seq ?_
      refine E.regionP rfl ?_
      refine R.loadA t24 hB6 rfl rfl rfl trivial ?_
      refine R.storeA t24 hB4 rfl rfl rfl rfl (ones2 hP13.outer.one rfl) nofun ?_
      intro w9 hU9 hs9 hN9
      replace hP16 := hP16.upT hU9 hB4 (by decide)
      replace hB2 := hB2.up hU9 (fun h => ne2_4 h)
      replace hB3 := hB3.upT hU9 hB4 (by decide)
      replace hB6 := hB6.up hU9 (fun h => ne4_6 h.symm)
      replace hE := hE.own hU9 hb4
      replace hB4 : Blk _ b4 24 #[u13, .int .i64 H] := hN9
      clear hN9
      refine R.assign ?_
      refine R.nil ?_
      refine E.ret ?_
      refine retA1 (.int .i64 0) t24 hB4 rfl rfl rfl rfl ⟨_, rfl, hE, ?_⟩
      subst hxs'
      rw [show shiftR xss H f t = ((shiftL xss H f t).1, (H : Int), 0) by simp [shiftR, hR, hc18]]
      exact ⟨_, rfl, .inr ⟨H, _, _, _, rfl, hP16, hf13, hba13⟩⟩
  · refine calls_E (args := [.agg #[v, .int .i64 h], .agg #[.int .i64 f, .int .i64 t]]) 22 Try.func36 rfl rfl (by simp) ?_
    have hE : Ext w w := Upd.refl w
    refine E.seq ?_
    refine E.regionP rfl ?_
    refine R.box rfl nofun ?_
    intro b2 w1 hb2 hx1 hB2
    replace hb2 := Nat.le_trans hE.size hb2
    replace hE := hE.ext hx1
    replace hB2 : Blk _ b2 24 #[v, .int .i64 h] := hB2
    refine R.box rfl nofun ?_
    intro b3 w2 hb3 hx2 hB3
    replace hb3 := Nat.le_trans hE.size hb3
    replace hB2 := hB2.ext hx2
    replace hE := hE.ext hx2
    replace hB3 : Blk _ b3 30 #[.int .i64 f, .int .i64 t] := hB3
    refine R.alloc t24 nofun ?_
    intro b4 w3 hb4 hx3 hB4
    have ne2_4 : b2 ≠ b4 := by have := hB2.lt; omega
    replace hb4 := Nat.le_trans hE.size hb4
    replace hB2 := hB2.ext hx3
    replace hB3 := hB3.ext hx3
    replace hE := hE.ext hx3
    replace hB4 : Blk _ b4 24 #[.slice none 0 0, .int .i64 0] := hB4
    refine R.assign ?_
    refine R.nil ?_
    refine E.seq ?_
    refine E.seq ?_
    refine E.regionP rfl ?_
    refine R.loadA t24 hB2 rfl rfl rfl trivial ?_
    refine R.callE1 ent27 (right _ (hm.ext hE) hl hx) rfl nofun ?_
    rintro v9 w4 hx4 rfl
    rw [hR]
    replace hB2 := hB2.ext hx4
    replace hB3 := hB3.ext hx4
    replace hB4 := hB4.ext hx4
    replace hE := hE.ext hx4
    refine R.not rfl ?_
    refine R.nil ?_
    refine E.condT rfl ?_
    refine E.seq ?_
    refine E.regionP rfl ?_
    refine R.build build24_0 rfl ?_
    refine R.storeA t24 hB4 rfl rfl rfl rfl (ones2 rfl rfl) nofun ?_
    intro w5 hU5 hs5 hN5
    replace hB2 := hB2.up hU5 (fun h => ne2_4 h)
    replace hB3 := hB3.upT hU5 hB4 (by decide)
    replace hE := hE.own hU5 hb4
    replace hB4 : Blk _ b4 24 #[.slice none 0 0, .int .i64 0] := hN5
    clear hN5
    refine R.assign ?_
    refine R.nil ?_
    refine E.ret ?_
    refine retA1 (.int .i64 2) t24 hB4 rfl rfl rfl rfl ⟨_, rfl, hE, ?_⟩
    rw [show shiftR xss h f t = ([], 0, 2) by simp [shiftR, hR]]
    exact YRes.zero
theorem yTake (w : World) {v : Value} {h b : Int} {us : List Value} {xss : List (List Int)} (hm : Mat w v us xss) (hl : xss.length < 1000000) (hx : ∀ xs ∈ xss, xs.length < 1000000) :
    Calls Try.prog 25 #[.agg #[v, .int .i64 h], .int .i64 b] w (Ret fun r w' => Ext w w' ∧ YRes w w' r (takeR xss h b)) := by
  cases hR : rightB xss h
  rotate_left
  rcases hF : findL xss b with _ | ⟨i, k⟩
  · refine calls_E (args := [.agg #[v, .int .i64 h], .int .i64 b]) 50 Try.func25 rfl rfl (by simp) ?_
    have hE : Ext w w := Upd.refl w
    refine E.seq ?_
    refine E.regionP rfl ?_
    refine R.box rfl nofun ?_
    intro b2 w1 hb2 hx1 hB2
    replace hb2 := Nat.le_trans hE.size hb2
    replace hE := hE.ext hx1
    replace hB2 : Blk _ b2 24 #[v, .int .i64 h] := hB2
    refine R.alloc t24 nofun ?_
    intro b4 w2 hb4 hx2 hB4
    have ne2_4 : b2 ≠ b4 := by have := hB2.lt; omega
    replace hb4 := Nat.le_trans hE.size hb4
    replace hB2 := hB2.ext hx2
    replace hE := hE.ext hx2
    replace hB4 : Blk _ b4 24 #[.slice none 0 0, .int .i64 0] := hB4
    refine R.assign ?_
    refine R.nil ?_
    refine E.seq ?_
    refine E.seq ?_
    refine E.regionP rfl ?_
    refine R.loadA t24 hB2 rfl rfl rfl trivial ?_
    refine R.callE1 ent27 (right _ (hm.ext hE) hl hx) rfl nofun ?_
    rintro v11 w3 hx3 rfl
    rw [hR]
    replace hB2 := hB2.ext hx3
    replace hB4 := hB4.ext hx3
    replace hE := hE.ext hx3
    refine R.not rfl ?_
    refine R.nil ?_
    refine E.condF rfl ?_
    refine E.skip ?_
    refine E.seq ?_
    refine E.regionP rfl ?_
    refine R.loadA t24 hB2 rfl rfl rfl trivial ?_
    refine R.move ?_
    refine R.callE2 ent23 (find _ (hm.ext hE) hl hx) rfl rfl nofun ?_
    rintro v17 w4 hx4 rfl
    simp only [findV, hF]
    replace hB2 := hB2.ext hx4
    replace hB4 := hB4.ext hx4
    replace hE := hE.ext hx4
    refine R.move ?_
    refine R.extract rfl rfl ?_
    refine R.extract rfl rfl ?_
    refine R.extract rfl rfl ?_
    refine R.assign ?_
    refine R.assign ?_
    refine R.assign ?_
    refine R.nil ?_
    refine E.seq ?_
    refine E.block ?_
    refine E.seq ?_
    refine E.regionP rfl ?_
    refine R.move ?_
    refine R.not rfl ?_
    refine R.assign ?_
    refine R.nil ?_
    refine E.condT rfl ?_
    refine E.seq ?_
    refine E.regionP rfl ?_
    refine R.build build24_0 rfl ?_
    refine R.storeA t24 hB4 rfl rfl rfl rfl (ones2 rfl rfl) nofun ?_
    intro w5 hU5 hs5 hN5
    replace hB2 := hB2.up hU5 (fun h => ne2_4 h)
    replace hE := hE.own hU5 hb4
    replace hB4 : Blk _ b4 24 #[.slice none 0 0, .int .i64 0] := hN5
    clear hN5
    refine R.assign ?_
    refine R.nil ?_
    refine E.ret ?_
    refine retA1 (.int .i64 6) t24 hB4 rfl rfl rfl rfl ⟨_, rfl, hE, ?_⟩
    rw [show takeR xss h b = ([], 0, 6) by simp [takeR, hR, hF]]
    exact YRes.zero
  · obtain ⟨H, rfl, hH0, hH6, hl30, hl1, hxH⟩ := rightB_nat hR
    obtain ⟨hi, hk, hbk, hn⟩ := findL_some hF
    have hxi := hxH _ (List.getElem_mem hi)
    have hgi : xss.getD i [] = xss[i] := by simp [hi]
    refine calls_E (args := [.agg #[v, .int .i64 H], .int .i64 b]) 50 Try.func25 rfl rfl (by simp) ?_
    have hE : Ext w w := Upd.refl w
    refine E.seq ?_
    refine E.regionP rfl ?_
    refine R.box rfl nofun ?_
    intro b2 w1 hb2 hx1 hB2
    replace hb2 := Nat.le_trans hE.size hb2
    replace hE := hE.ext hx1
    replace hB2 : Blk _ b2 24 #[v, .int .i64 H] := hB2
    refine R.alloc t24 nofun ?_
    intro b4 w2 hb4 hx2 hB4
    have ne2_4 : b2 ≠ b4 := by have := hB2.lt; omega
    replace hb4 := Nat.le_trans hE.size hb4
    replace hB2 := hB2.ext hx2
    replace hE := hE.ext hx2
    replace hB4 : Blk _ b4 24 #[.slice none 0 0, .int .i64 0] := hB4
    refine R.assign ?_
    refine R.nil ?_
    refine E.seq ?_
    refine E.seq ?_
    refine E.regionP rfl ?_
    refine R.loadA t24 hB2 rfl rfl rfl trivial ?_
    refine R.callE1 ent27 (right _ (hm.ext hE) hl hx) rfl nofun ?_
    rintro v11 w3 hx3 rfl
    rw [hR]
    replace hB2 := hB2.ext hx3
    replace hB4 := hB4.ext hx3
    replace hE := hE.ext hx3
    refine R.not rfl ?_
    refine R.nil ?_
    refine E.condF rfl ?_
    refine E.skip ?_
    refine E.seq ?_
    refine E.regionP rfl ?_
    refine R.loadA t24 hB2 rfl rfl rfl trivial ?_
    refine R.move ?_
    refine R.callE2 ent23 (find _ (hm.ext hE) hl hx) rfl rfl nofun ?_
    rintro v17 w4 hx4 rfl
    simp only [findV, hF]
    replace hB2 := hB2.ext hx4
    replace hB4 := hB4.ext hx4
    replace hE := hE.ext hx4
    refine R.move ?_
    refine R.extract rfl rfl ?_
    refine R.extract rfl rfl ?_
    refine R.extract rfl rfl ?_
    refine R.assign ?_
    refine R.assign ?_
    refine R.assign ?_
    refine R.nil ?_
    refine E.seq ?_
    refine E.block ?_
    refine E.seq ?_
    refine E.regionP rfl ?_
    refine R.move ?_
    refine R.not rfl ?_
    refine R.assign ?_
    refine R.nil ?_
    refine E.condF rfl ?_
    refine E.seq ?_
    refine E.regionP rfl ?_
    refine R.move ?_
    refine R.fld fa24_0 rfl ?_
    refine R.loadB t22 hB2 rfl rfl rfl trivial ?_
    refine R.move ?_
    refine R.ix Try.underlying22 t35 (by decide) hm.row rfl rfl hi ?_
    obtain ⟨u31, hu31, hr31⟩ := hm.get i (by omega)
    refine R.ld t35 (hm.row.ext hE) rfl hu31 rfl (fun _ _ => trivial) ?_
    refine R.len Try.underlying35 hr31 rfl ?_
    refine R.subN (n := 1) rfl rfl (by omega) (by omega) ?_
    refine R.lss rfl rfl rfl ?_
    refine R.assign ?_
    refine R.nil ?_
    refine E.cond rfl (fun hc25 => ?_) (fun hc25 => ?_)
    · replace hc25 := dT hc25
      refine E.seq ?_
      refine E.regionP rfl ?_
      refine R.build build24_0 rfl ?_
      refine R.storeA t24 hB4 rfl rfl rfl rfl (ones2 rfl rfl) nofun ?_
      intro w5 hU5 hs5 hN5
      replace hB2 := hB2.up hU5 (fun h => ne2_4 h)
      replace hE := hE.own hU5 hb4
      replace hB4 : Blk _ b4 24 #[.slice none 0 0, .int .i64 0] := hN5
      clear hN5
      refine R.assign ?_
      refine R.nil ?_
      refine E.ret ?_
      refine retA1 (.int .i64 342) t24 hB4 rfl rfl rfl rfl ⟨_, rfl, hE, ?_⟩
      rw [show takeR xss H b = ([], 0, 342) by simp only [takeR, hR, hF, hgi]; rw [if_neg (by simp), if_pos (by omega)]]
      exact YRes.zero
    · replace hc25 := dF hc25
      refine E.skip ?_
      refine E.seq ?_
      refine E.regionP rfl ?_
      refine R.loadA t24 hB2 rfl rfl rfl trivial ?_
      refine R.callE1 ent64 (copied _ (hm.ext hE) hH0 hH6 hl30 hxH) rfl nofun ?_
      rintro v37 w6 hx6 ⟨u37, ba37, us37, cur37, rfl, hP37, hf37, hba37⟩
      replace hf37 := hf37.mono hE.size
      replace hba37 := Nat.le_trans hE.size hba37
      replace hB2 := hB2.ext hx6
      replace hB4 := hB4.ext hx6
      replace hE := hE.ext hx6
      refine R.alloc t24 nofun ?_
      intro b9 w7 hb9 hx7 hB9
      have ne2_9 : b2 ≠ b9 := by have := hB2.lt; omega
      have ne4_9 : b4 ≠ b9 := by have := hB4.lt; omega
      replace hb9 := Nat.le_trans hE.size hb9
      replace hP37 := hP37.ext hx7
      replace hB2 := hB2.ext hx7
      replace hB4 := hB4.ext hx7
      replace hE := hE.ext hx7
      replace hB9 : Blk _ b9 24 #[.slice none 0 0, .int .i64 0] := hB9
      refine R.storeA t24 hB9 rfl rfl rfl rfl (ones2 hP37.outer.one rfl) nofun ?_
      intro w8 hU8 hs8 hN8
      replace hP37 := hP37.upT hU8 hB9 (by decide)
      replace hB2 := hB2.up hU8 (fun h => ne2_9 h)
      replace hB4 := hB4.up hU8 (fun h => ne4_9 h)
      replace hE := hE.own hU8 hb9
      replace hB9 : Blk _ b9 24 #[u37, .int .i64 H] := hN8
      clear hN8
      obtain ⟨hue, hxe, _⟩ := hP37.elems i hi
      refine R.nil ?_
      refine E.seq ?_
      refine E.regionW (fun c x => x < w8.heap.size ∧ (c = false → vblk u37 ≠ some x)) [45] mixed rfl (by kernel_rfl) ?_
      intro w9 hx9 hh9
      replace hP37 := hP37.ext hx9
      replace hB2 := hB2.ext hx9
      replace hB4 := hB4.ext hx9
      replace hB9 := hB9.ext hx9
      replace hE := hE.ext hx9
      have hEs : Ext w9 w9 := Upd.refl _
      have hS0 := hx9.size
      have hSB : ∀ b, b < w9.heap.size → b < w8.heap.size ∧ (true = false → (fun x => vblk u37 ≠ some x) b) := fun b hb => ⟨by rw [hh9] at hb; exact hb, nofun⟩
      have hSA : ∀ b, b < w9.heap.size → (fun x => vblk u37 ≠ some x) b → b < w8.heap.size ∧ (false = false → (fun x => vblk u37 ≠ some x) b) := fun b hb h => ⟨by rw [hh9] at hb; exact hb, fun _ => h⟩
      have hP37s := hP37
      have hB2s := hB2
      have hB4s := hB4
      have hB9s := hB9
      refine R.fld fa24_0 rfl ?_
      refine R.loadB t22 (hB9s.ext hEs) rfl rfl rfl (hSA b9 hB9s.lt (hB9.ne_vblk hP37.outer (by decide))) ?_
      refine R.move ?_
      refine R.fld fa24_0 rfl ?_
      refine R.loadB t22 (hB9s.ext hEs) rfl rfl rfl (hSA b9 hB9s.lt (hB9.ne_vblk hP37.outer (by decide))) ?_
      refine R.move ?_
      refine R.ix Try.underlying22 t35 (by decide) hP37.outer.row rfl rfl hi ?_
      refine R.ldE t35 hP37s.outer.row hEs rfl hue rfl hSB ?_
      refine R.move ?_
      refine R.slcE (v := .slice (some ⟨ba37, i * H, none⟩) xss[i].length H) (l := 0) (r := k) (.slice (some ⟨ba37, i * H, none⟩) k H) Try.underlying35 t3 rfl rfl rfl ⟨_, rfl⟩ (Nat.zero_le _) (by omega) (cut0 _ _ _ _) ?_
      refine R.ix Try.underlying22 t35 (by decide) hP37.outer.row rfl rfl hi ?_
      refine R.stE (u := .slice (some ⟨ba37, i * H, none⟩) k H) t35 hP37.outer rfl rfl rfl hi (fun _ x hx h => h.2 rfl hx) ?_
      intro w48 hU48 hs48 hO48
      replace hB2 := hB2.upS hU48 hP37.outer (by decide)
      replace hB4 := hB4.upS hU48 hP37.outer (by decide)
      replace hB9 := hB9.upS hU48 hP37.outer (by decide)
      have hA48 := hP37.all.upS hU48 hP37.outer (by decide)
      replace hE := hE.trans hU48 (fun b hb h => by have := hf37 b h; omega)
      have hP38 := PY.trunc hP37 hi (by omega) hO48 hA48
      refine R.nil ?_
      refine E.seq ?_
      refine E.regionP rfl ?_
      refine R.loadA t24 hB9 rfl rfl rfl trivial ?_
      refine R.storeA t24 hB4 rfl rfl rfl rfl (ones2 hP37.outer.one rfl) nofun ?_
      intro w10 hU10 hs10 hN10
      replace hP38 := hP38.upT hU10 hB4 (by decide)
      replace hB2 := hB2.up hU10 (fun h => ne2_4 h)
      replace hB9 := hB9.up hU10 (fun h => ne4_9 h.symm)
      replace hE := hE.own hU10 hb4
      replace hB4 : Blk _ b4 24 #[u37, .int .i64 H] := hN10
      clear hN10
      refine R.assign ?_
      refine R.nil ?_
      refine E.ret ?_
      refine retA1 (.int .i64 0) t24 hB4 rfl rfl rfl rfl ⟨_, rfl, hE, ?_⟩
      rw [show takeR xss H b = (xss.set i (xss[i].take k), (H : Int), 0) by simp only [takeR, hR, hF, hgi]; rw [if_neg (by simp), if_neg (by omega)]]
      exact ⟨_, rfl, .inr ⟨H, _, _, _, rfl, hP38, hf37, hba37⟩⟩
  · refine calls_E (args := [.agg #[v, .int .i64 h], .int .i64 b]) 50 Try.func25 rfl rfl (by simp) ?_
    have hE : Ext w w := Upd.refl w
    refine E.seq ?_
    refine E.regionP rfl ?_
    refine R.box rfl nofun ?_
    intro b2 w1 hb2 hx1 hB2
    replace hb2 := Nat.le_trans hE.size hb2
    replace hE := hE.ext hx1
    replace hB2 : Blk _ b2 24 #[v, .int .i64 h] := hB2
    refine R.alloc t24 nofun ?_
    intro b4 w2 hb4 hx2 hB4
    have ne2_4 : b2 ≠ b4 := by have := hB2.lt; omega
    replace hb4 := Nat.le_trans hE.size hb4
    replace hB2 := hB2.ext hx2
    replace hE := hE.ext hx2
    replace hB4 : Blk _ b4 24 #[.slice none 0 0, .int .i64 0] := hB4
    refine R.assign ?_
    refine R.nil ?_
    refine E.seq ?_
    refine E.seq ?_
    refine E.regionP rfl ?_
    refine R.loadA t24 hB2 rfl rfl rfl trivial ?_
    refine R.callE1 ent27 (right _ (hm.ext hE) hl hx) rfl nofun ?_
    rintro v11 w3 hx3 rfl
    rw [hR]
    replace hB2 := hB2.ext hx3
    replace hB4 := hB4.ext hx3
    replace hE := hE.ext hx3
    refine R.not rfl ?_
    refine R.nil ?_
    refine E.condT rfl ?_
    refine E.seq ?_
    refine E.regionP rfl ?_
    refine R.build build24_0 rfl ?_
    refine R.storeA t24 hB4 rfl rfl rfl rfl (ones2 rfl rfl) nofun ?_
    intro w4 hU4 hs4 hN4
    replace hB2 := hB2.up hU4 (fun h => ne2_4 h)
    replace hE := hE.own hU4 hb4
    replace hB4 : Blk _ b4 24 #[.slice none 0 0, .int .i64 0] := hN4
    clear hN4
    refine R.assign ?_
    refine R.nil ?_
    refine E.ret ?_
    refine retA1 (.int .i64 2) t24 hB4 rfl rfl rfl rfl ⟨_, rfl, hE, ?_⟩
    rw [show takeR xss h b = ([], 0, 2) by simp [takeR, hR]]
    exact YRes.zero
end Go.Proofs.Ytfdmndkoiheebaa
