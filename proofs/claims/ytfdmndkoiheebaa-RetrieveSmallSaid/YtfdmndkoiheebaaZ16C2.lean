import Derived.Test.YtfdmndkoiheebaaZ16Base4
namespace Go.Proofs.Ytfdmndkoiheebaa
open Go Go.RowKit
section
variable {w w' : World} {v : Value} {H ba : Nat} {us : List Value} {cur : Array Value} {xss : List (List Int)}
theorem PY.push {b : Nat} {x : Int} (h : PY w v H ba us cur xss) (hb : b < xss.length) (hroom : xss[b].length < H) (ho : Sl w' 35 1 v xss.length (us.set b (.slice (some ⟨ba, b * H, none⟩) (xss[b].length + 1) H)))
    (ha : Blk w' ba 3 (put cur (b * H + xss[b].length) [.int .i64 x])) : PY w' v H ba (us.set b (.slice (some ⟨ba, b * H, none⟩) (xss[b].length + 1) H)) (put cur (b * H + xss[b].length) [.int .i64 x]) (xss.set b (xss[b] ++ [x])) := by
  have hseg := seg_le (H := H) hb
  have hsz := h.size
  have hul := h.outer.len
  have hfit : b * H + xss[b].length + [Value.int .i64 x].length ≤ cur.size := by simp; omega
  refine ⟨by rw [List.length_set]; exact ho, ha, by rw [List.length_set, put_size hfit]; exact hsz, fun i hi => ?_⟩
  rw [List.length_set] at hi
  obtain ⟨h1, h2, h3⟩ := h.elems i hi
  by_cases hib : b = i
  · subst hib
    simp only [List.getElem_set_self, List.length_append, List.length_cons, List.length_nil]
    refine ⟨by rw [List.getElem?_set_self (by omega)], by omega, fun j hj => ?_⟩
    rw [put_get hfit]
    by_cases hj2 : j < xss[b].length
    · rw [if_pos (by omega), h3 j hj2, List.getElem_append_left hj2]
    · rw [if_neg (by omega), if_pos (by simp; omega)]
      obtain rfl : j = xss[b].length := by omega
      simp
  · have e1 : (xss.set b (xss[b] ++ [x]))[i]'(by rw [List.length_set]; exact hi) = xss[i] := List.getElem_set_ne hib _
    simp only [e1]
    refine ⟨by rw [List.getElem?_set_ne hib]; exact h1, h2, fun j hj => ?_⟩
    rw [put_get hfit]
    have hs2 := seg_le (H := H) hi
    rcases Nat.lt_or_gt_of_ne hib with hlt | hlt
    · have := seg_le (H := H) hlt
      rw [if_neg (by omega), if_neg (by simp; omega)]
      exact h3 j hj
    · have := seg_le (H := H) hlt
      rw [if_pos (by omega)]
      exact h3 j hj
theorem PY.pop {a : Nat} (h : PY w v H ba us cur xss) (ha : a < xss.length) (ho : Sl w' 35 1 v xss.length (us.set a (.slice (some ⟨ba, a * H, none⟩) (xss[a].length - 1) H)))
    (hB : Blk w' ba 3 cur) : PY w' v H ba (us.set a (.slice (some ⟨ba, a * H, none⟩) (xss[a].length - 1) H)) cur (xss.set a xss[a].dropLast) := by
  have hul := h.outer.len
  refine ⟨by rw [List.length_set]; exact ho, hB, by rw [List.length_set]; exact h.size, fun i hi => ?_⟩
  rw [List.length_set] at hi
  obtain ⟨h1, h2, h3⟩ := h.elems i hi
  by_cases hib : a = i
  · subst hib
    simp only [List.getElem_set_self, List.length_dropLast]
    refine ⟨by rw [List.getElem?_set_self (by omega)], by omega, fun j hj => ?_⟩
    rw [h3 j (by omega), List.getElem_dropLast]
  · have e1 : (xss.set a xss[a].dropLast)[i]'(by rw [List.length_set]; exact hi) = xss[i] := List.getElem_set_ne hib _
    simp only [e1]
    exact ⟨by rw [List.getElem?_set_ne hib]; exact h1, h2, h3⟩
end
def shiftL (xss : List (List Int)) (H : Nat) (f t : Int) : List (List Int) × Int :=
  if f < 0 ∨ (xss.length : Int) ≤ f ∨ t < 0 ∨ (xss.length : Int) ≤ t then (xss, 6)
  else if f = t then (xss, 340)
  else if (xss.getD f.toNat []).length = 0 then (xss, 341)
  else if (xss.getD t.toNat []).length = H then (xss, 4)
  else ((xss.set t.toNat (xss.getD t.toNat [] ++ [(xss.getD f.toNat []).getD ((xss.getD f.toNat []).length - 1) 0])).set f.toNat (xss.getD f.toNat []).dropLast, 0)
set_option maxHeartbeats 1600000 in
theorem shift (w : World) {v : Value} {H ba : Nat} {us : List Value} {cur : Array Value} {xss : List (List Int)} {f t : Int} (hP : PY w v H ba us cur xss) (hH : H ≤ 6) (hl : xss.length ≤ 30) :
    Calls Try.prog 67 #[.agg #[v, .int .i64 H], .agg #[.int .i64 f, .int .i64 t]] w (Ret fun r w' => ∃ xss' us' cur', r = .int .i64 (shiftL xss H f t).2 ∧ Upd (fun x => x = ba ∨ vblk v = some x) w w' ∧ xss' = (shiftL xss H f t).1 ∧ PY w' v H ba us' cur' xss') := by
  refine calls_E (args := [.agg #[v, .int .i64 H], .agg #[.int .i64 f, .int .i64 t]]) 92 Try.func67 rfl rfl (by simp) ?_
  have hE : Upd (fun x => x = ba ∨ vblk v = some x) w w := Upd.refl w
  refine E.seq ?_
  refine E.regionP rfl ?_
  refine R.box rfl nofun ?_
  intro b2 w1 hb2 hx1 hB2
  replace hb2 := Nat.le_trans hE.size hb2
  replace hP := hP.ext hx1
  replace hE := hE.ext hx1
  replace hB2 : Blk _ b2 24 #[v, .int .i64 H] := hB2
  refine R.box rfl nofun ?_
  intro b3 w2 hb3 hx2 hB3
  replace hb3 := Nat.le_trans hE.size hb3
  replace hP := hP.ext hx2
  replace hB2 := hB2.ext hx2
  replace hE := hE.ext hx2
  replace hB3 : Blk _ b3 30 #[.int .i64 f, .int .i64 t] := hB3
  refine R.assign ?_
  refine R.nil ?_
  refine E.seq ?_
  refine E.regionP rfl ?_
  refine R.fld fa24_0 rfl ?_
  refine R.loadB t22 hB2 rfl rfl rfl trivial ?_
  refine R.len Try.underlying22 hP.outer.row rfl ?_
  refine R.assign ?_
  refine R.nil ?_
  refine E.seq ?_
  refine E.block ?_
  refine E.seq ?_
  rcases (show f < 0 ∨ (0 ≤ f ∧ (xss.length : Int) ≤ f) ∨ (0 ≤ f ∧ f < xss.length ∧ t < 0) ∨ (0 ≤ f ∧ f < xss.length ∧ 0 ≤ t ∧ (xss.length : Int) ≤ t) ∨ (0 ≤ f ∧ f < xss.length ∧ 0 ≤ t ∧ t < xss.length) by omega) with hq | hq | hq | hq | hq
  · refine E.regionP rfl ?_
    refine R.fld fa30_0 rfl ?_
    refine R.loadB t3 hB3 rfl rfl rfl trivial ?_
    refine R.lss (b := true) rfl rfl (decide_eq_true hq) ?_
    refine R.move ?_
    refine R.gF rfl rfl rfl ?_
    refine R.gF rfl rfl rfl ?_
    refine R.gF rfl rfl rfl ?_
    refine R.gF rfl rfl rfl ?_
    refine R.pickT rfl ?_
    refine R.move ?_
    refine R.gF rfl rfl rfl ?_
    refine R.gF rfl rfl rfl ?_
    refine R.gF rfl rfl rfl ?_
    refine R.pickT rfl ?_
    refine R.move ?_
    refine R.gF rfl rfl rfl ?_
    refine R.gF rfl rfl rfl ?_
    refine R.gF rfl rfl rfl ?_
    refine R.gF rfl rfl rfl ?_
    refine R.pickT rfl ?_
    refine R.assign ?_
    refine R.nil ?_
    refine E.condT rfl ?_
    refine E.seq ?_
    refine E.regionP rfl ?_
    refine R.assign ?_
    refine R.nil ?_
    refine E.ret ?_
    refine ret1 (.int .i64 6) rfl rfl ⟨_, rfl, xss, us, cur, ?_, hE, ?_⟩
    · rw [show shiftL xss H f t = (xss, 6) by simp only [shiftL]; rw [if_pos (by omega)]]
    · rw [show shiftL xss H f t = (xss, 6) by simp only [shiftL]; rw [if_pos (by omega)]]; exact ⟨rfl, hP⟩
  · refine E.regionP rfl ?_
    refine R.fld fa30_0 rfl ?_
    refine R.loadB t3 hB3 rfl rfl rfl trivial ?_
    refine R.lss (b := false) rfl rfl (decide_eq_false (by omega)) ?_
    refine R.move ?_
    refine R.gT rfl rfl ?_
    refine R.fld fa30_0 rfl ?_
    refine R.gT rfl rfl ?_
    refine R.loadB t3 hB3 rfl rfl rfl trivial ?_
    refine R.gT rfl rfl ?_
    refine R.move ?_
    refine R.gT rfl rfl ?_
    refine R.geq (b := true) rfl rfl (decide_eq_true (by omega)) ?_
    refine R.pickF rfl ?_
    refine R.move ?_
    refine R.gF rfl rfl rfl ?_
    refine R.gF rfl rfl rfl ?_
    refine R.gF rfl rfl rfl ?_
    refine R.pickT rfl ?_
    refine R.move ?_
    refine R.gF rfl rfl rfl ?_
    refine R.gF rfl rfl rfl ?_
    refine R.gF rfl rfl rfl ?_
    refine R.gF rfl rfl rfl ?_
    refine R.pickT rfl ?_
    refine R.assign ?_
    refine R.nil ?_
    refine E.condT rfl ?_
    refine E.seq ?_
    refine E.regionP rfl ?_
    refine R.assign ?_
    refine R.nil ?_
    refine E.ret ?_
    refine ret1 (.int .i64 6) rfl rfl ⟨_, rfl, xss, us, cur, ?_, hE, ?_⟩
    · rw [show shiftL xss H f t = (xss, 6) by simp only [shiftL]; rw [if_pos (by omega)]]
    · rw [show shiftL xss H f t = (xss, 6) by simp only [shiftL]; rw [if_pos (by omega)]]; exact ⟨rfl, hP⟩
  · refine E.regionP rfl ?_
    refine R.fld fa30_0 rfl ?_
    refine R.loadB t3 hB3 rfl rfl rfl trivial ?_
    refine R.lss (b := false) rfl rfl (decide_eq_false (by omega)) ?_
    refine R.move ?_
    refine R.gT rfl rfl ?_
    refine R.fld fa30_0 rfl ?_
    refine R.gT rfl rfl ?_
    refine R.loadB t3 hB3 rfl rfl rfl trivial ?_
    refine R.gT rfl rfl ?_
    refine R.move ?_
    refine R.gT rfl rfl ?_
    refine R.geq (b := false) rfl rfl (decide_eq_false (by omega)) ?_
    refine R.pickF rfl ?_
    refine R.move ?_
    refine R.gT rfl rfl ?_
    refine R.fld fa30_1 rfl ?_
    refine R.gT rfl rfl ?_
    refine R.loadB t3 hB3 rfl rfl rfl trivial ?_
    refine R.gT rfl rfl ?_
    refine R.lss (b := true) rfl rfl (decide_eq_true (by omega)) ?_
    refine R.pickF rfl ?_
    refine R.move ?_
    refine R.gF rfl rfl rfl ?_
    refine R.gF rfl rfl rfl ?_
    refine R.gF rfl rfl rfl ?_
    refine R.gF rfl rfl rfl ?_
    refine R.pickT rfl ?_
    refine R.assign ?_
    refine R.nil ?_
    refine E.condT rfl ?_
    refine E.seq ?_
    refine E.regionP rfl ?_
    refine R.assign ?_
    refine R.nil ?_
    refine E.ret ?_
    refine ret1 (.int .i64 6) rfl rfl ⟨_, rfl, xss, us, cur, ?_, hE, ?_⟩
    · rw [show shiftL xss H f t = (xss, 6) by simp only [shiftL]; rw [if_pos (by omega)]]
    · rw [show shiftL xss H f t = (xss, 6) by simp only [shiftL]; rw [if_pos (by omega)]]; exact ⟨rfl, hP⟩
  · refine E.regionP rfl ?_
    refine R.fld fa30_0 rfl ?_
    refine R.loadB t3 hB3 rfl rfl rfl trivial ?_
    refine R.lss (b := false) rfl rfl (decide_eq_false (by omega)) ?_
    refine R.move ?_
    refine R.gT rfl rfl ?_
    refine R.fld fa30_0 rfl ?_
    refine R.gT rfl rfl ?_
    refine R.loadB t3 hB3 rfl rfl rfl trivial ?_
    refine R.gT rfl rfl ?_
    refine R.move ?_
    refine R.gT rfl rfl ?_
    refine R.geq (b := false) rfl rfl (decide_eq_false (by omega)) ?_
    refine R.pickF rfl ?_
    refine R.move ?_
    refine R.gT rfl rfl ?_
    refine R.fld fa30_1 rfl ?_
    refine R.gT rfl rfl ?_
    refine R.loadB t3 hB3 rfl rfl rfl trivial ?_
    refine R.gT rfl rfl ?_
    refine R.lss (b := false) rfl rfl (decide_eq_false (by omega)) ?_
    refine R.pickF rfl ?_
    refine R.move ?_
    refine R.gT rfl rfl ?_
    refine R.fld fa30_1 rfl ?_
    refine R.gT rfl rfl ?_
    refine R.loadB t3 hB3 rfl rfl rfl trivial ?_
    refine R.gT rfl rfl ?_
    refine R.move ?_
    refine R.gT rfl rfl ?_
    refine R.geq (b := true) rfl rfl (decide_eq_true (by omega)) ?_
    refine R.pickF rfl ?_
    refine R.assign ?_
    refine R.nil ?_
    refine E.condT rfl ?_
    refine E.seq ?_
    refine E.regionP rfl ?_
    refine R.assign ?_
    refine R.nil ?_
    refine E.ret ?_
    refine ret1 (.int .i64 6) rfl rfl ⟨_, rfl, xss, us, cur, ?_, hE, ?_⟩
    · rw [show shiftL xss H f t = (xss, 6) by simp only [shiftL]; rw [if_pos (by omega)]]
    · rw [show shiftL xss H f t = (xss, 6) by simp only [shiftL]; rw [if_pos (by omega)]]; exact ⟨rfl, hP⟩
  · obtain ⟨a, rfl⟩ : ∃ a : Nat, f = a := ⟨f.toNat, by omega⟩
    obtain ⟨b, rfl⟩ : ∃ b : Nat, t = b := ⟨t.toNat, by omega⟩
    have hal : a < xss.length := by omega
    have hbl : b < xss.length := by omega
    obtain ⟨hua, hxa, hca⟩ := hP.elems a hal
    obtain ⟨hub, hxb, hcb⟩ := hP.elems b hbl
    have hga : xss.getD a [] = xss[a] := by simp [hal]
    have hgb : xss.getD b [] = xss[b] := by simp [hbl]
    refine E.regionP rfl ?_
    refine R.fld fa30_0 rfl ?_
    refine R.loadB t3 hB3 rfl rfl rfl trivial ?_
    refine R.lss (b := false) rfl rfl (decide_eq_false (by omega)) ?_
    refine R.move ?_
    refine R.gT rfl rfl ?_
    refine R.fld fa30_0 rfl ?_
    refine R.gT rfl rfl ?_
    refine R.loadB t3 hB3 rfl rfl rfl trivial ?_
    refine R.gT rfl rfl ?_
    refine R.move ?_
    refine R.gT rfl rfl ?_
    refine R.geq (b := false) rfl rfl (decide_eq_false (by omega)) ?_
    refine R.pickF rfl ?_
    refine R.move ?_
    refine R.gT rfl rfl ?_
    refine R.fld fa30_1 rfl ?_
    refine R.gT rfl rfl ?_
    refine R.loadB t3 hB3 rfl rfl rfl trivial ?_
    refine R.gT rfl rfl ?_
    refine R.lss (b := false) rfl rfl (decide_eq_false (by omega)) ?_
    refine R.pickF rfl ?_
    refine R.move ?_
    refine R.gT rfl rfl ?_
    refine R.fld fa30_1 rfl ?_
    refine R.gT rfl rfl ?_
    refine R.loadB t3 hB3 rfl rfl rfl trivial ?_
    refine R.gT rfl rfl ?_
    refine R.move ?_
    refine R.gT rfl rfl ?_
    refine R.geq (b := false) rfl rfl (decide_eq_false (by omega)) ?_
    refine R.pickF rfl ?_
    refine R.assign ?_
    refine R.nil ?_
    refine E.condF rfl ?_
    refine E.seq ?_
    refine E.regionP rfl ?_
    refine R.fld fa30_0 rfl ?_
    refine R.loadB t3 hB3 rfl rfl rfl trivial ?_
    refine R.fld fa30_1 rfl ?_
    refine R.loadB t3 hB3 rfl rfl rfl trivial ?_
    refine R.eql rfl rfl rfl ?_
    refine R.assign ?_
    refine R.nil ?_
    refine E.cond rfl (fun hc32 => ?_) (fun hc32 => ?_)
    · replace hc32 := dT hc32
      refine E.seq ?_
      refine E.regionP rfl ?_
      refine R.assign ?_
      refine R.nil ?_
      refine E.ret ?_
      have e1 : shiftL xss H a b = (xss, 340) := by
        simp only [shiftL]
        rw [if_neg (by omega), if_pos hc32]
      refine ret1 (.int .i64 340) rfl rfl ⟨_, rfl, xss, us, cur, ?_, hE, ?_⟩
      · rw [e1]
      · rw [e1]; exact ⟨rfl, hP⟩
    · replace hc32 := dF hc32
      refine E.seq ?_
      refine E.regionP rfl ?_
      refine R.fld fa24_0 rfl ?_
      refine R.loadB t22 hB2 rfl rfl rfl trivial ?_
      refine R.fld fa30_0 rfl ?_
      refine R.loadB t3 hB3 rfl rfl rfl trivial ?_
      refine R.ix Try.underlying22 t35 (by decide) hP.outer.row rfl rfl hal ?_
      refine R.ld t35 hP.outer.row rfl hua rfl (fun _ _ => trivial) ?_
      refine R.lenV Try.underlying35 rfl ?_
      refine R.eql rfl rfl rfl ?_
      refine R.assign ?_
      refine R.nil ?_
      refine E.cond rfl (fun hc38 => ?_) (fun hc38 => ?_)
      · replace hc38 := dT hc38
        refine E.seq ?_
        refine E.regionP rfl ?_
        refine R.assign ?_
        refine R.nil ?_
        refine E.ret ?_
        have e1 : shiftL xss H a b = (xss, 341) := by
          simp only [shiftL]
          rw [if_neg (by omega), if_neg hc32, Int.toNat_natCast, hga, if_pos (by omega)]
        refine ret1 (.int .i64 341) rfl rfl ⟨_, rfl, xss, us, cur, ?_, hE, ?_⟩
        · rw [e1]
        · rw [e1]; exact ⟨rfl, hP⟩
      · replace hc38 := dF hc38
        refine E.seq ?_
        refine E.regionW allS [] mixed rfl (by kernel_rfl) ?_
        intro w3 hx3 hh3
        replace hP := hP.ext hx3
        replace hB2 := hB2.ext hx3
        replace hB3 := hB3.ext hx3
        replace hE := hE.ext hx3
        refine R.fld fa24_0 rfl ?_
        refine R.loadB t22 hB2 rfl rfl rfl trivial ?_
        refine R.fld fa30_1 rfl ?_
        refine R.loadB t3 hB3 rfl rfl rfl trivial ?_
        refine R.ix Try.underlying22 t35 (by decide) hP.outer.row rfl rfl hbl ?_
        refine R.ld t35 hP.outer.row rfl hub rfl (fun _ _ => trivial) ?_
        refine R.lenV Try.underlying35 rfl ?_
        refine R.fld fa24_1 rfl ?_
        refine R.loadB t3 hB2 rfl rfl rfl trivial ?_
        refine R.eql rfl rfl rfl ?_
        refine R.assign ?_
        refine R.nil ?_
        refine E.cond rfl (fun hc47 => ?_) (fun hc47 => ?_)
        · replace hc47 := dT hc47
          refine E.seq ?_
          refine E.regionP rfl ?_
          refine R.assign ?_
          refine R.nil ?_
          refine E.ret ?_
          have e1 : shiftL xss H a b = (xss, 4) := by
            simp only [shiftL]
            rw [if_neg (by omega), if_neg hc32, Int.toNat_natCast, Int.toNat_natCast, hga, hgb, if_neg (by omega), if_pos (by omega)]
          refine ret1 (.int .i64 4) rfl rfl ⟨_, rfl, xss, us, cur, ?_, hE, ?_⟩
          · rw [e1]
          · rw [e1]; exact ⟨rfl, hP⟩
        · replace hc47 := dF hc47
          refine E.skip ?_
          refine E.seq ?_
          refine E.regionP rfl ?_
          refine R.fld fa24_0 rfl ?_
          refine R.loadB t22 hB2 rfl rfl rfl trivial ?_
          refine R.fld fa30_0 rfl ?_
          refine R.loadB t3 hB3 rfl rfl rfl trivial ?_
          refine R.ix Try.underlying22 t35 (by decide) hP.outer.row rfl rfl hal ?_
          refine R.ld t35 hP.outer.row rfl hua rfl (fun _ _ => trivial) ?_
          refine R.assign ?_
          refine R.nil ?_
          refine E.seq ?_
          refine E.regionP rfl ?_
          refine R.move ?_
          refine R.lenV Try.underlying35 rfl ?_
          refine R.subN (n := 1) rfl rfl (by omega) (by omega) ?_
          refine R.assign ?_
          refine R.nil ?_
          refine E.seq ?_
          refine E.regionW (fun c x => x < w3.heap.size ∧ (c = false → x ≠ ba ∧ vblk v ≠ some x)) [76, 80] mixed rfl (by kernel_rfl) ?_
          intro w4 hx4 hh4
          replace hP := hP.ext hx4
          replace hB2 := hB2.ext hx4
          replace hB3 := hB3.ext hx4
          replace hE := hE.ext hx4
          have hEs : Ext w4 w4 := Upd.refl _
          have hS0 := hx4.size
          have hSB : ∀ b, b < w4.heap.size → b < w3.heap.size ∧ (true = false → (fun x => x ≠ ba ∧ vblk v ≠ some x) b) := fun b hb => ⟨by rw [hh4] at hb; exact hb, nofun⟩
          have hSA : ∀ b, b < w4.heap.size → (fun x => x ≠ ba ∧ vblk v ≠ some x) b → b < w3.heap.size ∧ (false = false → (fun x => x ≠ ba ∧ vblk v ≠ some x) b) := fun b hb h => ⟨by rw [hh4] at hb; exact hb, fun _ => h⟩
          have hPs := hP
          have hB2s := hB2
          have hB3s := hB3
          refine R.fld fa24_0 rfl ?_
          refine R.loadB t22 (hB2s.ext hEs) rfl rfl rfl (hSA b2 hB2s.lt (⟨hB2.ne hP.all (by decide), hB2.ne_vblk hP.outer (by decide)⟩)) ?_
          refine R.fld fa30_1 rfl ?_
          refine R.loadB t3 (hB3s.ext hEs) rfl rfl rfl (hSA b3 hB3s.lt (⟨hB3.ne hP.all (by decide), hB3.ne_vblk hP.outer (by decide)⟩)) ?_
          refine R.fld fa24_0 rfl ?_
          refine R.loadB t22 (hB2s.ext hEs) rfl rfl rfl (hSA b2 hB2s.lt (⟨hB2.ne hP.all (by decide), hB2.ne_vblk hP.outer (by decide)⟩)) ?_
          refine R.fld fa30_1 rfl ?_
          refine R.loadB t3 (hB3s.ext hEs) rfl rfl rfl (hSA b3 hB3s.lt (⟨hB3.ne hP.all (by decide), hB3.ne_vblk hP.outer (by decide)⟩)) ?_
          refine R.ix Try.underlying22 t35 (by decide) hP.outer.row rfl rfl hbl ?_
          refine R.ldE t35 hPs.outer.row hEs rfl hub rfl hSB ?_
          refine R.move ?_
          refine R.move ?_
          refine R.ix Try.underlying35 t3 (by decide) (hPs.row a hal).row rfl rfl (by omega) ?_
          refine R.ldE t3 (hPs.row a hal).row hEs rfl (int_at (k := xss[a].length - 1) (by omega)) rfl hSB ?_
          refine R.buildSlice [.int .i64 xss[a][xss[a].length - 1]] Try.underlying35 t3 rfl rfl (by simp [Value.cells]) (by simp) (fun _ _ _ hb => Nat.lt_of_lt_of_le hb.1 (Nat.le_trans hS0 hEs.size)) ?_
          intro b81 w5 hb81 hx5 hB81 hS81
          replace hb81 := Nat.le_trans hE.size hb81
          replace hP := hP.ext hx5
          replace hB2 := hB2.ext hx5
          replace hB3 := hB3.ext hx5
          replace hE := hE.ext hx5
          replace hEs := hEs.ext hx5
          refine R.appendIn Try.underlying35 Try.underlying35 t3 (by decide) (m := 1) hP.all hS81.row (by simp [cellsOf, Value.cells, Value.oneCell']) rfl rfl (by omega) (by have := seg_le (H := H) hbl; have := hP.size; omega) (fun _ h => (h.2 rfl).1 rfl) ?_
          intro w82 hU82 hA hk82
          have hO := hP.outer.upT hU82 hP.all (by decide)
          replace hB2 := hB2.upT hU82 hP.all (by decide)
          replace hB3 := hB3.upT hU82 hP.all (by decide)
          clear hS81
          replace hE := hE.trans hU82 (fun _ _ h => .inl h)
          refine R.ix Try.underlying22 t35 (by decide) hO.row rfl rfl hbl ?_
          refine R.stE (u := .slice (some ⟨ba, b * H, none⟩) (xss[b].length + 1) H) t35 hO rfl rfl rfl (by omega) (fun _ x hx h => (h.2 rfl).2 hx) ?_
          intro w83 hU83 hs83 hO83
          replace hA := hA.upS hU83 hO (by decide)
          replace hB2 := hB2.upS hU83 hO (by decide)
          replace hB3 := hB3.upS hU83 hO (by decide)
          replace hE := hE.trans hU83 (fun _ _ h => .inr h)
          replace hO := hO83
          have hP1 := PY.push hP (by omega) (by omega) hO (by simpa [cellsOf, Value.cells] using hA)
          clear hA hO83 hO
          refine R.nil ?_
          refine E.seq ?_
          refine E.regionW (fun c x => x < w83.heap.size ∧ (c = false → vblk v ≠ some x)) [] mixed rfl (by kernel_rfl) ?_
          intro w6 hx6 hh6
          replace hP1 := hP1.ext hx6
          replace hB2 := hB2.ext hx6
          replace hB3 := hB3.ext hx6
          replace hE := hE.ext hx6
          have hEs : Ext w6 w6 := Upd.refl _
          have hS0 := hx6.size
          have hSB : ∀ b, b < w6.heap.size → b < w83.heap.size ∧ (true = false → (fun x => vblk v ≠ some x) b) := fun b hb => ⟨by rw [hh6] at hb; exact hb, nofun⟩
          have hSA : ∀ b, b < w6.heap.size → (fun x => vblk v ≠ some x) b → b < w83.heap.size ∧ (false = false → (fun x => vblk v ≠ some x) b) := fun b hb h => ⟨by rw [hh6] at hb; exact hb, fun _ => h⟩
          have hP1s := hP1
          have hB2s := hB2
          have hB3s := hB3
          refine R.fld fa24_0 rfl ?_
          refine R.loadB t22 (hB2s.ext hEs) rfl rfl rfl (hSA b2 hB2s.lt (hB2.ne_vblk hP1.outer (by decide))) ?_
          refine R.fld fa30_0 rfl ?_
          refine R.loadB t3 (hB3s.ext hEs) rfl rfl rfl (hSA b3 hB3s.lt (hB3.ne_vblk hP1.outer (by decide))) ?_
          refine R.move ?_
          refine R.move ?_
          refine R.slcE (v := .slice (some ⟨ba, a * H, none⟩) xss[a].length H) (l := 0) (r := xss[a].length - 1) (.slice (some ⟨ba, a * H, none⟩) (xss[a].length - 1) H) Try.underlying35 t3 rfl rfl rfl ⟨_, rfl⟩ (Nat.zero_le _) (by omega) (cut0 _ _ _ _) ?_
          refine R.ix Try.underlying22 t35 (by decide) hP1.outer.row rfl rfl (by simpa using hal) ?_
          refine R.stE (u := .slice (some ⟨ba, a * H, none⟩) (xss[a].length - 1) H) t35 hP1.outer rfl rfl rfl (by simpa using hal) (fun _ x hx h => h.2 rfl hx) ?_
          intro w91 hU91 hs91 hO91
          have hA91 := hP1.all.upS hU91 hP1.outer (by decide)
          replace hE := hE.trans hU91 (fun _ _ h => .inr h)
          have hne : b ≠ a := fun e => hc32 (by rw [e])
          have hea : (xss.set b (xss[b] ++ [xss[a][xss[a].length - 1]]))[a]'(by simpa using hal) = xss[a] := List.getElem_set_ne hne _
          have hP2 := PY.pop hP1 (by simpa using hal) (w' := w91) (by rw [hea]; exact hO91) hA91
          rw [hea] at hP2
          refine R.nil ?_
          refine E.seq ?_
          refine E.regionP rfl ?_
          refine R.assign ?_
          refine R.nil ?_
          refine E.ret ?_
          have e1 : shiftL xss H a b = ((xss.set b (xss[b] ++ [xss[a][xss[a].length - 1]])).set a xss[a].dropLast, 0) := by
            simp only [shiftL]
            rw [if_neg (by omega), if_neg hc32, Int.toNat_natCast, Int.toNat_natCast, hga, hgb, if_neg (by omega), if_neg (by omega)]
            rw [List.getD_eq_getElem?_getD, List.getElem?_eq_getElem (show xss[a].length - 1 < xss[a].length by omega)]
            rfl
          refine ret1 (.int .i64 0) rfl rfl ⟨_, rfl, _, _, _, ?_, hE, ?_, hP2⟩
          · rw [e1]
          · rw [e1]
end Go.Proofs.Ytfdmndkoiheebaa
