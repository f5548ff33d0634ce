import Derived.Test.YtfdmndkoiheebaaZ16A4
namespace Go.Proofs.Ytfdmndkoiheebaa
open Go Go.RowKit
theorem lentWaters (w : World) {v : Value} {us : List Value} {xss : List (List Int)} (h : Mat w v us xss) (hl : xss.length < 1000000) (hx : ∀ xs ∈ xss, xs.length < 1000000) :
    Calls Try.prog 66 #[v] w (Ret fun r w' => Ext w w' ∧ LentM w' r xss ∧ Fresh w r) := by
  refine calls_E (args := [v]) 39 Try.func66 rfl rfl (by simp) ?_
  have hE : Ext w w := Upd.refl w
  refine E.seq ?_
  refine E.regionP rfl ?_
  refine R.assign ?_
  refine R.nil ?_
  refine E.seq ?_
  refine E.regionP rfl ?_
  refine R.move ?_
  refine R.len Try.underlying22 h.row rfl ?_
  refine R.addN (n := 12) rfl rfl (by omega) ?_
  refine R.make (n := 0) (c := xss.length + 12) Try.underlying22 t35 rfl rfl rfl (by omega) (by omega) (by omega) nofun ?_
  intro b10 w10 hb10 hx10 hB10 hS10
  replace hE := hE.ext hx10
  have hf10 : Fresh w (.slice (some ⟨b10, 0, none⟩) 0 (xss.length + 12)) := fun b hb => by simp [vblk] at hb; omega
  refine R.assign ?_
  refine R.nil ?_
  refine E.seq ?_
  refine E.seq ?_
  refine E.regionP rfl ?_
  refine R.assign ?_
  refine R.nil ?_
  refine E.block ?_
  refine E.loop (fun n e wr => ∃ k : Nat, ∃ vv : Value, ∃ ws : List Value, n = xss.length - k ∧ k ≤ xss.length ∧ Ext w wr ∧ Sl wr 35 1 vv k ws ∧ Fresh w vv ∧ LentRows wr ws (xss.take k) ∧ Has e [(0, v), (3, vv), (4, .int .i64 k)]) (xss.length) ?_ ?_
  · exact ⟨0, _, [], rfl, Nat.zero_le _, hE, hS10, hf10, ⟨by simp, fun i hi => by simp at hi⟩, rfl, rfl, rfl, trivial⟩
  · rintro n e wr ⟨k, vv, ws, rfl, hk, hE, hS, hf, hR, hH⟩
    obtain ⟨e, rfl⟩ := hH.ex
    clear hH
    refine E.seq ?_
    refine E.seq ?_
    refine E.regionP rfl ?_
    refine R.move ?_
    refine R.move ?_
    refine R.len Try.underlying22 h.row rfl ?_
    refine R.lss rfl rfl rfl ?_
    refine R.nil ?_
    refine E.cond rfl (fun hc14 => ?_) (fun hc14 => ?_)
    · replace hc14 := dT hc14
      refine E.skip ?_
      refine E.seq ?_
      refine E.block ?_
      refine E.seq ?_
      refine E.regionP rfl ?_
      refine R.move ?_
      refine R.move ?_
      refine R.ix Try.underlying22 t35 (by decide) h.row rfl rfl (by omega) ?_
      obtain ⟨u20, hu20, hr20⟩ := h.get k (by omega)
      refine R.ld t35 (h.row.ext hE) rfl hu20 rfl (fun _ _ => trivial) ?_
      refine R.callE1 ent81 (lentInts _ (hr20.ext hE) (hx _ (List.getElem_mem _))) rfl nofun ?_
      rintro v21 w1 hx1 ⟨hL21, hf21⟩
      replace hS := hS.ext hx1
      replace hR := hR.ext hx1
      replace hE := hE.ext hx1
      refine R.assign ?_
      refine R.nil ?_
      refine E.regionP rfl ?_
      refine R.move ?_
      refine R.move ?_
      refine R.buildSlice [v21] Try.underlying22 t35 rfl rfl (by simp [cells_one hL21.ints.one]) (by simp) nofun ?_
      intro b24 w2 hb24 hx2 hB24 hS24
      replace hb24 := Nat.le_trans hE.size hb24
      replace hS := hS.ext hx2
      replace hR := hR.ext hx2
      replace hL21 := hL21.ext hx2
      replace hE := hE.ext hx2
      refine R.append Try.underlying22 Try.underlying22 t35 (by decide) rfl hS hS24.row (by simp [cellsOf, cells_one hL21.ints.one, hL21.ints.one]) rfl rfl (by simp; omega) (by simp; omega) nofun ?_
      intro v25 w25 hU25 hS25 hd25
      have hf25 := Fresh.app hE hf hd25
      replace hE := hE.app hU25 hf
      replace hR := hR.upS hU25 hS
      replace hL21 := hL21.upS hU25 hS (by decide)
      refine R.assign ?_
      refine R.nil ?_
      refine E.regionP rfl ?_
      refine R.move ?_
      refine R.addN (n := 1) rfl rfl (by omega) ?_
      refine R.assign ?_
      refine R.nil ?_
      refine ⟨xss.length - (k + 1), by omega, k + 1, v25, ws ++ [v21], rfl, by omega, hE, ?_, hf25, hR.snoc (by omega) hL21, rfl, rfl, rfl, trivial⟩
      simpa [cellsOf, cells_one hL21.ints.one] using hS25
    · replace hc14 := dF hc14
      refine E.exit ?_
      refine E.seq ?_
      refine E.seq ?_
      refine E.regionP rfl ?_
      refine R.assign ?_
      refine R.nil ?_
      refine E.block ?_
      refine E.loop (fun n e wr => ∃ j : Nat, ∃ vv : Value, ∃ ms : List Value, n = 12 - j ∧ j ≤ 12 ∧ Ext w wr ∧ Sl wr 35 1 vv (xss.length + j) (ws ++ ms) ∧ Fresh w vv ∧ LentRows wr ws xss ∧ MarkRows wr ms j ∧ Has e [(0, v), (3, vv), (6, .int .i64 j)]) (12) ?_ ?_
      · obtain rfl : k = xss.length := by omega
        rw [List.take_length] at hR
        exact ⟨0, vv, [], rfl, Nat.zero_le _, hE, by simpa using hS, hf, hR, ⟨rfl, fun i hi => by omega⟩, rfl, rfl, rfl, trivial⟩
      · rintro n e wr ⟨j, vv, ms, rfl, hj, hE, hS, hf, hR, hM, hH⟩
        obtain ⟨e, rfl⟩ := hH.ex
        clear hH
        refine E.seq ?_
        refine E.seq ?_
        refine E.regionP rfl ?_
        refine R.move ?_
        refine R.lss rfl rfl rfl ?_
        refine R.nil ?_
        refine E.cond rfl (fun hc27 => ?_) (fun hc27 => ?_)
        · replace hc27 := dT hc27
          refine E.skip ?_
          refine E.seq ?_
          refine E.block ?_
          refine E.regionP rfl ?_
          refine R.move ?_
          refine R.move ?_
          refine R.callE2 ent91 (markWater_ _ (k := 1) (by decide) (by omega)) rfl rfl nofun ?_
          rintro v32 w3 hx3 ⟨hS32, hf32⟩
          replace hS := hS.ext hx3
          replace hR := hR.ext hx3
          replace hM := hM.ext hx3
          replace hE := hE.ext hx3
          refine R.buildSlice [v32] Try.underlying22 t35 rfl rfl (by simp [cells_one hS32.row.one]) (by simp) nofun ?_
          intro b33 w4 hb33 hx4 hB33 hS33
          replace hb33 := Nat.le_trans hE.size hb33
          replace hS := hS.ext hx4
          replace hR := hR.ext hx4
          replace hM := hM.ext hx4
          replace hS32 := hS32.ext hx4
          replace hE := hE.ext hx4
          refine R.append Try.underlying22 Try.underlying22 t35 (by decide) rfl hS hS33.row (by simp [cellsOf, cells_one hS32.row.one, hS32.row.one]) rfl rfl (by simp; omega) (by simp; omega) nofun ?_
          intro v34 w34 hU34 hS34 hd34
          have hf34 := Fresh.app hE hf hd34
          replace hE := hE.app hU34 hf
          replace hR := hR.upS hU34 hS
          replace hM := hM.upS hU34 hS
          replace hS32 := hS32.upS hU34 hS (by decide)
          refine R.assign ?_
          refine R.nil ?_
          refine E.regionP rfl ?_
          refine R.move ?_
          refine R.addN (n := 1) rfl rfl (by omega) ?_
          refine R.assign ?_
          refine R.nil ?_
          refine ⟨12 - (j + 1), by omega, j + 1, v34, ms ++ [v32], rfl, by omega, hE, ?_, hf34, hR, hM.snoc hS32, rfl, rfl, rfl, trivial⟩
          simpa [cellsOf, cells_one hS32.row.one, Nat.add_assoc] using hS34
        · replace hc27 := dF hc27
          refine E.exit ?_
          refine E.seq ?_
          refine E.regionP rfl ?_
          refine R.move ?_
          refine R.move ?_
          refine R.len Try.underlying22 h.row rfl ?_
          obtain ⟨a0, c0, hv0, hc0, _⟩ := id hS
          refine R.slc (l := 0) (r := xss.length) Try.underlying22 t35 rfl hv0 rfl ⟨_, rfl⟩ (Nat.zero_le _) (by omega) ?_
          refine R.assign ?_
          refine R.nil ?_
          refine E.ret ?_
          obtain rfl : j = 12 := by omega
          exact ret1 (cut 1 vv 0 xss.length) rfl rfl ⟨_, rfl, hE, ⟨vv, ws, ms, hS, rfl, hR, hM⟩, fun b hb => hf b (vblk_cut hb)⟩
end Go.Proofs.Ytfdmndkoiheebaa

namespace Go.Proofs.Ytfdmndkoiheebaa
open Go Go.RowKit
theorem cut_cut (v : Value) (a : Option Addr) (n c l r : Nat) (h : v = .slice a n c) : cut 1 (cut 1 v 0 l) 0 r = .slice a r c := by
  subst h
  have e : ∀ p : Option Addr, (if c = 0 then p else p.map (·.add (0 * 1))) = p := by
    intro p
    split
    · rfl
    · cases p <;> simp [Addr.add]
  simp only [cut, e, Nat.sub_zero]
theorem Lent.full {w : World} {v : Value} {xs : List Int} (h : Lent w v xs) : SInts w (cut 1 v 0 (xs.length + 12)) (xs ++ marks 12) := by
  obtain ⟨v0, h, rfl⟩ := h
  obtain ⟨a, c, hv, _⟩ := id h
  rw [cut_cut v0 a _ c _ _ hv]
  have : (xs ++ marks 12).length = xs.length + 12 := by simp [marks_length]
  rw [this] at hv
  rw [← hv]
  exact h
theorem Lent.cap {w : World} {v : Value} {xs : List Int} (h : Lent w v xs) : ∃ a c, v = .slice a xs.length c ∧ xs.length + 12 ≤ c := by
  obtain ⟨v0, h, rfl⟩ := h
  obtain ⟨a, c, rfl, hc, _⟩ := h
  have : (xs ++ marks 12).length = xs.length + 12 := by simp [marks_length]
  exact ⟨_, _, rfl, by omega⟩
theorem lent_left {xs : List Int} {i : Nat} (h : i < xs.length) : (ints (xs ++ marks 12))[i]? = some (.int .i64 xs[i]) := by
  simp [ints, List.getElem?_append_left, h]
theorem lent_right {xs : List Int} {i : Nat} (h : xs.length ≤ i) (h2 : i < xs.length + 12) : (ints (xs ++ marks 12))[i]? = some (.int .i64 (markL 1 (i - xs.length))) := by
  have : i - xs.length < 12 := by omega
  rw [show ints (xs ++ marks 12) = ints xs ++ ints (marks 12) by simp [ints], List.getElem?_append_right (by simpa using h)]
  simp [ints, marks, this]
theorem keptInts (w : World) {v1 v2 : Value} {xs : List Int} (h1 : Lent w v1 xs) (h2 : Ints w v2 xs) (hl : xs.length < 1000000) :
    Calls Try.prog 83 #[v1, v2] w (Ret fun r w' => Ext w w' ∧ r = .bool true) := by
  have hF := h1.full.row
  have hlen : (xs ++ marks 12).length = xs.length + 12 := by simp [marks_length]
  obtain ⟨a1, c1, hv1, hc1⟩ := h1.cap
  have h1r := h1.ints
  refine calls_E (args := [v1, v2]) 58 Try.func83 rfl rfl (by simp) ?_
  have hE : Ext w w := Upd.refl w
  refine E.seq ?_
  refine E.regionP rfl ?_
  refine R.assign ?_
  refine R.nil ?_
  refine E.seq ?_
  refine E.seq ?_
  refine E.regionP rfl ?_
  refine R.move ?_
  refine R.len Try.underlying35 h1r rfl ?_
  refine R.move ?_
  refine R.len Try.underlying35 h2 rfl ?_
  refine R.neq (b := false) rfl rfl (by simp) ?_
  refine R.nil ?_
  refine E.condF rfl ?_
  refine E.skip ?_
  refine E.seq ?_
  refine E.regionP rfl ?_
  refine R.move ?_
  refine R.move ?_
  refine R.len Try.underlying35 h2 rfl ?_
  refine R.addN (n := 12) rfl rfl (by omega) ?_
  refine R.slc (l := 0) (r := xs.length + 12) Try.underlying35 t3 rfl hv1 rfl ⟨_, rfl⟩ (Nat.zero_le _) hc1 ?_
  refine R.assign ?_
  refine R.nil ?_
  refine E.seq ?_
  refine E.seq ?_
  refine E.regionP rfl ?_
  refine R.assign ?_
  refine R.nil ?_
  refine E.block ?_
  refine E.loop (fun n e wr => ∃ i : Nat, n = xs.length + 12 - i ∧ i ≤ xs.length + 12 ∧ Ext w wr ∧ Has e [(1, v2), (5, cut 1 v1 0 (xs.length + 12)), (6, .int .i64 i)]) (xs.length + 12) ?_ ?_
  · exact ⟨0, rfl, Nat.zero_le _, hE, rfl, rfl, rfl, trivial⟩
  · rintro n e wr ⟨i, rfl, hi, hE, hH⟩
    obtain ⟨e, rfl⟩ := hH.ex
    clear hH
    refine E.seq ?_
    refine E.seq ?_
    refine E.regionP rfl ?_
    refine R.move ?_
    refine R.move ?_
    refine R.len Try.underlying35 hF rfl ?_
    refine R.lss rfl rfl rfl ?_
    refine R.nil ?_
    refine E.cond rfl (fun hc20 => ?_) (fun hc20 => ?_)
    · replace hc20 := dT hc20
      refine E.skip ?_
      refine E.seq ?_
      refine E.block ?_
      refine E.seq ?_
      by_cases hlt : i < xs.length
      · refine E.regionW (fun _ b => b < wr.heap.size) [] mixed rfl (by kernel_rfl) ?_
        intro w1 hx1 hh1
        replace hE := hE.ext hx1
        have hEs : Ext w1 w1 := Upd.refl _
        have hS0 := hx1.size
        have hSs : ∀ b, b < w1.heap.size → b < wr.heap.size := fun b hb => by rw [hh1] at hb; exact hb
        have hSa : ∀ b, b < w.heap.size → b < wr.heap.size := fun b hb => by have := hE.size; rw [hh1] at this; omega
        refine R.move ?_
        refine R.move ?_
        refine R.len Try.underlying35 h2 rfl ?_
        refine R.lss (b := true) rfl rfl (decide_eq_true (by omega)) ?_
        refine R.move ?_
        refine R.gT rfl rfl ?_
        refine R.move ?_
        refine R.gT rfl rfl ?_
        refine R.move ?_
        refine R.gT rfl rfl ?_
        refine R.ix Try.underlying35 t3 (by decide) hF rfl rfl (by omega) ?_
        refine R.gT rfl rfl ?_
        refine R.ldE t3 hF hE rfl (lent_left hlt) rfl hSa ?_
        refine R.gT rfl rfl ?_
        refine R.move ?_
        refine R.gT rfl rfl ?_
        refine R.move ?_
        refine R.gT rfl rfl ?_
        refine R.ix Try.underlying35 t3 (by decide) h2 rfl rfl (by omega) ?_
        refine R.gT rfl rfl ?_
        refine R.ldE t3 h2 hE rfl (int_at hlt) rfl hSa ?_
        refine R.gT rfl rfl ?_
        refine R.eql (b := true) rfl rfl (decide_eq_true rfl) ?_
        refine R.gT rfl rfl ?_
        refine R.not rfl ?_
        refine R.pickT rfl ?_
        refine R.move ?_
        refine R.gT rfl rfl ?_
        refine R.move ?_
        refine R.gT rfl rfl ?_
        refine R.move ?_
        refine R.gT rfl rfl ?_
        refine R.len Try.underlying35 h2 rfl ?_
        refine R.gT rfl rfl ?_
        refine R.geq (b := false) rfl rfl (decide_eq_false (by omega)) ?_
        refine R.gT rfl rfl ?_
        refine R.move ?_
        refine R.gF rfl rfl rfl ?_
        refine R.gF rfl rfl rfl ?_
        refine R.gF rfl rfl rfl ?_
        refine R.gF rfl rfl rfl ?_
        refine R.gF rfl rfl rfl ?_
        refine R.gF rfl rfl rfl ?_
        refine R.gF rfl rfl rfl ?_
        refine R.gF rfl rfl rfl ?_
        refine R.gF rfl rfl rfl ?_
        refine R.gF rfl rfl rfl ?_
        refine R.gF rfl rfl rfl ?_
        refine R.gT rfl rfl ?_
        refine R.pickF rfl ?_
        refine R.pickF rfl ?_
        refine R.nil ?_
        refine E.condF rfl ?_
        refine E.skip ?_
        refine E.regionP rfl ?_
        refine R.move ?_
        refine R.addN (n := 1) rfl rfl (by omega) ?_
        refine R.assign ?_
        refine R.nil ?_
        exact ⟨xs.length + 12 - (i + 1), by omega, i + 1, rfl, by omega, hE, rfl, rfl, rfl, trivial⟩
      · refine E.regionW (fun _ b => b < wr.heap.size) [] mixed rfl (by kernel_rfl) ?_
        intro w2 hx2 hh2
        replace hE := hE.ext hx2
        have hEs : Ext w2 w2 := Upd.refl _
        have hS0 := hx2.size
        have hSs : ∀ b, b < w2.heap.size → b < wr.heap.size := fun b hb => by rw [hh2] at hb; exact hb
        have hSa : ∀ b, b < w.heap.size → b < wr.heap.size := fun b hb => by have := hE.size; rw [hh2] at this; omega
        refine R.move ?_
        refine R.move ?_
        refine R.len Try.underlying35 h2 rfl ?_
        refine R.lss (b := false) rfl rfl (decide_eq_false (by omega)) ?_
        refine R.move ?_
        refine R.gF rfl rfl rfl ?_
        refine R.gF rfl rfl rfl ?_
        refine R.gF rfl rfl rfl ?_
        refine R.gF rfl rfl rfl ?_
        refine R.gF rfl rfl rfl ?_
        refine R.gF rfl rfl rfl ?_
        refine R.gF rfl rfl rfl ?_
        refine R.gF rfl rfl rfl ?_
        refine R.gF rfl rfl rfl ?_
        refine R.gF rfl rfl rfl ?_
        refine R.pickF rfl ?_
        refine R.move ?_
        refine R.gT rfl rfl ?_
        refine R.move ?_
        refine R.gT rfl rfl ?_
        refine R.move ?_
        refine R.gT rfl rfl ?_
        refine R.len Try.underlying35 h2 rfl ?_
        refine R.gT rfl rfl ?_
        refine R.geq (b := true) rfl rfl (decide_eq_true (by omega)) ?_
        refine R.gT rfl rfl ?_
        refine R.move ?_
        refine R.gT rfl rfl ?_
        refine R.move ?_
        refine R.gT rfl rfl ?_
        refine R.move ?_
        refine R.gT rfl rfl ?_
        refine R.ix Try.underlying35 t3 (by decide) hF rfl rfl (by omega) ?_
        refine R.gT rfl rfl ?_
        refine R.ldE t3 hF hE rfl (lent_right (by omega) (by omega)) rfl hSa ?_
        refine R.gT rfl rfl ?_
        refine R.move ?_
        refine R.gT rfl rfl ?_
        refine R.move ?_
        refine R.gT rfl rfl ?_
        refine R.len Try.underlying35 h2 rfl ?_
        refine R.gT rfl rfl ?_
        refine R.subN rfl rfl (by omega) (by omega) ?_
        refine R.gT rfl rfl ?_
        refine R.callE2 ent97 (mark_ _ (k := 1) (i := i - xs.length) (by decide) (by omega)) rfl rfl (fun _ _ hb => Nat.lt_of_lt_of_le hb (Nat.le_trans hS0 hEs.size)) ?_
        rintro v53 w3 hx3 rfl
        replace hE := hE.ext hx3
        replace hEs := hEs.ext hx3
        refine R.gT rfl rfl ?_
        refine R.eql (b := true) rfl rfl (decide_eq_true rfl) ?_
        refine R.gT rfl rfl ?_
        refine R.not rfl ?_
        refine R.gT rfl rfl ?_
        refine R.pickT rfl ?_
        refine R.pickF rfl ?_
        refine R.nil ?_
        refine E.condF rfl ?_
        refine E.skip ?_
        refine E.regionP rfl ?_
        refine R.move ?_
        refine R.addN (n := 1) rfl rfl (by omega) ?_
        refine R.assign ?_
        refine R.nil ?_
        exact ⟨xs.length + 12 - (i + 1), by omega, i + 1, rfl, by omega, hE, rfl, rfl, rfl, trivial⟩
    · replace hc20 := dF hc20
      refine E.exit ?_
      refine E.seq ?_
      refine E.regionP rfl ?_
      refine R.assign ?_
      refine R.nil ?_
      refine E.ret ?_
      exact ret1 (.bool true) rfl rfl ⟨_, rfl, hE, rfl⟩
end Go.Proofs.Ytfdmndkoiheebaa
