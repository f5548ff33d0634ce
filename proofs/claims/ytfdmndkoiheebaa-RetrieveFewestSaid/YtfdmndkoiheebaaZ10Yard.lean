import Derived.Test.YtfdmndkoiheebaaZ10A4
namespace Go.Proofs.Ytfdmndkoiheebaa
open Go Go.RowKit
theorem lentWaters (w : World) {v : Value} {us : List Value} {xss : List (List Int)} (h : Mat w v us xss) (hl : xss.length < 1000000) (hx : ∀ xs ∈ xss, xs.length < 1000000) :
    Calls Try.prog 66 #[v] w (Ret fun r w' => Ext w w' ∧ LentM w' r xss ∧ Fresh w r) := by
  refine calls_E (args := [v]) 39 Try.func66 rfl rfl (by simp) ?_
  have hE : Ext w w := Upd.refl w
  refine E.seq ?_
  refine E.regionP rfl ?_
  refine R.assign ?_
  refine R.nil ?_
  refine E.seq ?_
  refine E.regionP rfl ?_
  refine R.move ?_
  refine R.len Try.underlying22 h.row rfl ?_
  refine R.addN (n := 12) rfl rfl (by omega) ?_
  refine R.make (n := 0) (c := xss.length + 12) Try.underlying22 t35 rfl rfl rfl (by omega) (by omega) (by omega) nofun ?_
  intro b10 w10 hb10 hx10 hB10 hS10
  replace hE := hE.ext hx10
  have hf10 : Fresh w (.slice (some ⟨b10, 0, none⟩) 0 (xss.length + 12)) := fun b hb => by simp [vblk] at hb; omega
  refine R.assign ?_
  refine R.nil ?_
  refine E.seq ?_
  refine E.seq ?_
  refine E.regionP rfl ?_
  refine R.assign ?_
  refine R.nil ?_
  refine E.block ?_
  refine E.loop (fun n e wr => ∃ k : Nat, ∃ vv : Value, ∃ ws : List Value, n = xss.length - k ∧ k ≤ xss.length ∧ Ext w wr ∧ Sl wr 35 1 vv k ws ∧ Fresh w vv ∧ LentRows wr ws (xss.take k) ∧ Has e [(0, v), (3, vv), (4, .int .i64 k)]) (xss.length) ?_ ?_
  · exact ⟨0, _, [], rfl, Nat.zero_le _, hE, hS10, hf10, ⟨by simp, fun i hi => by simp at hi⟩, rfl, rfl, rfl, trivial⟩
  · rintro n e wr ⟨k, vv, ws, rfl, hk, hE, hS, hf, hR, hH⟩
    obtain ⟨e, rfl⟩ := hH.ex
    clear hH
    refine E.seq ?_
    refine E.seq ?_
    refine E.regionP rfl ?_
    refine R.move ?_
    refine R.move ?_
    refine R.len Try.underlying22 h.row rfl ?_
    refine R.lss rfl rfl rfl ?_
    refine R.nil ?_
    refine E.cond rfl (fun hc14 => ?_) (fun hc14 => ?_)
    · replace hc14 := dT hc14
      refine E.skip ?_
      refine E.seq ?_
      refine E.block ?_
      refine E.seq ?_
      refine E.regionP rfl ?_
      refine R.move ?_
      refine R.move ?_
      refine R.ix Try.underlying22 t35 (by decide) h.row rfl rfl (by omega) ?_
      obtain ⟨u20, hu20, hr20⟩ := h.get k (by omega)
      refine R.ld t35 (h.row.ext hE) rfl hu20 rfl (fun _ _ => trivial) ?_
      refine R.callE1 ent81 (lentInts _ (hr20.ext hE) (hx _ (List.getElem_mem _))) rfl nofun ?_
      rintro v21 w1 hx1 ⟨hL21, hf21⟩
      replace hS := hS.ext hx1
      replace hR := hR.ext hx1
      replace hE := hE.ext hx1
      refine R.assign ?_
      refine R.nil ?_
      refine E.regionP rfl ?_
      refine R.move ?_
      refine R.move ?_
      refine R.buildSlice [v21] Try.underlying22 t35 rfl rfl (by simp [cells_one hL21.ints.one]) (by simp) nofun ?_
      intro b24 w2 hb24 hx2 hB24 hS24
      replace hb24 := Nat.le_trans hE.size hb24
      replace hS := hS.ext hx2
      replace hR := hR.ext hx2
      replace hL21 := hL21.ext hx2
      replace hE := hE.ext hx2
      refine R.append Try.underlying22 Try.underlying22 t35 (by decide) rfl hS hS24.row (by simp [cellsOf, cells_one hL21.ints.one, hL21.ints.one]) rfl rfl (by simp; omega) (by simp; omega) nofun ?_
      intro v25 w25 hU25 hS25 hd25
      have hf25 := Fresh.app hE hf hd25
      replace hE := hE.app hU25 hf
      replace hR := hR.upS hU25 hS
      replace hL21 := hL21.upS hU25 hS (by decide)
      refine R.assign ?_
      refine R.nil ?_
      refine E.regionP rfl ?_
      refine R.move ?_
      refine R.addN (n := 1) rfl rfl (by omega) ?_
      refine R.assign ?_
      refine R.nil ?_
      refine ⟨xss.length - (k + 1), by omega, k + 1, v25, ws ++ [v21], rfl, by omega, hE, ?_, hf25, hR.snoc (by omega) hL21, rfl, rfl, rfl, trivial⟩
      simpa [cellsOf, cells_one hL21.ints.one] using hS25
    · replace hc14 := dF hc14
      refine E.exit ?_
      refine E.seq ?_
      refine E.seq ?_
      refine E.regionP rfl ?_
      refine R.assign ?_
      refine R.nil ?_
      refine E.block ?_
      refine E.loop (fun n e wr => ∃ j : Nat, ∃ vv : Value, ∃ ms : List Value, n = 12 - j ∧ j ≤ 12 ∧ Ext w wr ∧ Sl wr 35 1 vv (xss.length + j) (ws ++ ms) ∧ Fresh w vv ∧ LentRows wr ws xss ∧ MarkRows wr ms j ∧ Has e [(0, v), (3, vv), (6, .int .i64 j)]) (12) ?_ ?_
      · obtain rfl : k = xss.length := by omega
        rw [List.take_length] at hR
        exact ⟨0, vv, [], rfl, Nat.zero_le _, hE, by simpa using hS, hf, hR, ⟨rfl, fun i hi => by omega⟩, rfl, rfl, rfl, trivial⟩
      · rintro n e wr ⟨j, vv, ms, rfl, hj, hE, hS, hf, hR, hM, hH⟩
        obtain ⟨e, rfl⟩ := hH.ex
        clear hH
        refine E.seq ?_
        refine E.seq ?_
        refine E.regionP rfl ?_
        refine R.move ?_
        refine R.lss rfl rfl rfl ?_
        refine R.nil ?_
        refine E.cond rfl (fun hc27 => ?_) (fun hc27 => ?_)
        · replace hc27 := dT hc27
          refine E.skip ?_
          refine E.seq ?_
          refine E.block ?_
          refine E.regionP rfl ?_
          refine R.move ?_
          refine R.move ?_
          refine R.callE2 ent91 (markWater_ _ (k := 1) (by decide) (by omega)) rfl rfl nofun ?_
          rintro v32 w3 hx3 ⟨hS32, hf32⟩
          replace hS := hS.ext hx3
          replace hR := hR.ext hx3
          replace hM := hM.ext hx3
          replace hE := hE.ext hx3
          refine R.buildSlice [v32] Try.underlying22 t35 rfl rfl (by simp [cells_one hS32.row.one]) (by simp) nofun ?_
          intro b33 w4 hb33 hx4 hB33 hS33
          replace hb33 := Nat.le_trans hE.size hb33
          replace hS := hS.ext hx4
          replace hR := hR.ext hx4
          replace hM := hM.ext hx4
          replace hS32 := hS32.ext hx4
          replace hE := hE.ext hx4
          refine R.append Try.underlying22 Try.underlying22 t35 (by decide) rfl hS hS33.row (by simp [cellsOf, cells_one hS32.row.one, hS32.row.one]) rfl rfl (by simp; omega) (by simp; omega) nofun ?_
          intro v34 w34 hU34 hS34 hd34
          have hf34 := Fresh.app hE hf hd34
          replace hE := hE.app hU34 hf
          replace hR := hR.upS hU34 hS
          replace hM := hM.upS hU34 hS
          replace hS32 := hS32.upS hU34 hS (by decide)
          refine R.assign ?_
          refine R.nil ?_
          refine E.regionP rfl ?_
          refine R.move ?_
          refine R.addN (n := 1) rfl rfl (by omega) ?_
          refine R.assign ?_
          refine R.nil ?_
          refine ⟨12 - (j + 1), by omega, j + 1, v34, ms ++ [v32], rfl, by omega, hE, ?_, hf34, hR, hM.snoc hS32, rfl, rfl, rfl, trivial⟩
          simpa [cellsOf, cells_one hS32.row.one, Nat.add_assoc] using hS34
        · replace hc27 := dF hc27
          refine E.exit ?_
          refine E.seq ?_
          refine E.regionP rfl ?_
          refine R.move ?_
          refine R.move ?_
          refine R.len Try.underlying22 h.row rfl ?_
          obtain ⟨a0, c0, hv0, hc0, _⟩ := id hS
          refine R.slc (l := 0) (r := xss.length) Try.underlying22 t35 rfl hv0 rfl ⟨_, rfl⟩ (Nat.zero_le _) (by omega) ?_
          refine R.assign ?_
          refine R.nil ?_
          refine E.ret ?_
          obtain rfl : j = 12 := by omega
          exact ret1 (cut 1 vv 0 xss.length) rfl rfl ⟨_, rfl, hE, ⟨vv, ws, ms, hS, rfl, hR, hM⟩, fun b hb => hf b (vblk_cut hb)⟩
end Go.Proofs.Ytfdmndkoiheebaa

namespace Go.Proofs.Ytfdmndkoiheebaa
open Go Go.RowKit
theorem Lent.cap {w : World} {v : Value} {xs : List Int} (h : Lent w v xs) : ∃ a c, v = .slice a xs.length c ∧ xs.length + 12 ≤ c := by
  obtain ⟨v0, h, rfl⟩ := h
  obtain ⟨a, c, rfl, hc, _⟩ := h
  have : (xs ++ marks 12).length = xs.length + 12 := by simp [marks_length]
  exact ⟨_, _, rfl, by omega⟩
end Go.Proofs.Ytfdmndkoiheebaa

namespace Go.Proofs.Ytfdmndkoiheebaa
open Go Go.RowKit
theorem cut0 (a : Option Addr) (n c r : Nat) : cut 1 (.slice a n c) 0 r = .slice a r c := by
  have e : (if c = 0 then a else a.map (·.add (0 * 1))) = a := by
    split
    · rfl
    · cases a <;> simp [Addr.add]
  simp only [cut, e, Nat.sub_zero]
theorem own (w : World) {v : Value} {k : Int} {us : List Value} {xss : List (List Int)} (h : Mat w v us xss) (hl : xss.length < 1000000) (hx : ∀ xs ∈ xss, xs.length < 1000000) :
    Calls Try.prog 30 #[.agg #[v, .int .i64 k]] w (Ret fun r w' => Ext w w' ∧ ∃ v', r = .agg #[v', .int .i64 k] ∧ LentM w' v' xss ∧ Fresh w v') := by
  refine calls_E (args := [.agg #[v, .int .i64 k]]) 8 Try.func30 rfl rfl (by simp) ?_
  have hE : Ext w w := Upd.refl w
  refine E.seq ?_
  refine E.regionP rfl ?_
  refine R.box rfl nofun ?_
  intro b1 w1 hb1 hx1 hB1
  replace hb1 := Nat.le_trans hE.size hb1
  replace hE := hE.ext hx1
  replace hB1 : Blk _ b1 24 #[v, .int .i64 k] := hB1
  refine R.alloc t24 nofun ?_
  intro b2 w2 hb2 hx2 hB2
  have ne1_2 : b1 ≠ b2 := by have := hB1.lt; omega
  replace hb2 := Nat.le_trans hE.size hb2
  replace hB1 := hB1.ext hx2
  replace hE := hE.ext hx2
  replace hB2 : Blk _ b2 24 #[.slice none 0 0, .int .i64 0] := hB2
  refine R.nil ?_
  refine E.seq ?_
  refine E.regionP rfl ?_
  refine R.fld fa24_0 rfl ?_
  refine R.loadB t22 hB1 rfl rfl rfl trivial ?_
  refine R.callE1 ent66 (lentWaters _ (h.ext hE) hl hx) rfl nofun ?_
  rintro v5 w3 hx3 ⟨hL5, hf5⟩
  replace hf5 := hf5.mono hE.size
  replace hB1 := hB1.ext hx3
  replace hB2 := hB2.ext hx3
  replace hE := hE.ext hx3
  refine R.fld fa24_0 rfl ?_
  refine R.store t22 hB1 rfl rfl (hL5.one) (by simp) nofun ?_
  intro w4 hU4 hs4 hN4
  replace hL5 := hL5.upT hU4 hB1 (by decide)
  replace hB2 := hB2.up hU4 (fun h => ne1_2 h.symm)
  replace hE := hE.own hU4 hb1
  replace hB1 : Blk _ b1 24 #[v5, .int .i64 k] := hN4
  clear hN4
  refine R.nil ?_
  refine E.seq ?_
  refine E.regionP rfl ?_
  refine R.loadA t24 hB1 rfl rfl rfl trivial ?_
  refine R.storeA t24 hB2 rfl rfl rfl rfl (ones2 hL5.one rfl) nofun ?_
  intro w5 hU5 hs5 hN5
  replace hL5 := hL5.upT hU5 hB2 (by decide)
  replace hB1 := hB1.up hU5 (fun h => ne1_2 h)
  replace hE := hE.own hU5 hb2
  replace hB2 : Blk _ b2 24 #[v5, .int .i64 k] := hN5
  clear hN5
  refine R.nil ?_
  refine E.ret ?_
  exact retA t24 hB2 rfl rfl rfl ⟨_, rfl, hE, _, rfl, hL5, hf5⟩
end Go.Proofs.Ytfdmndkoiheebaa

namespace Go.Proofs.Ytfdmndkoiheebaa
def RightP (xss : List (List Int)) (h : Int) : Prop :=
  1 ≤ h ∧ h ≤ 6 ∧ 1 ≤ xss.length ∧ xss.length ≤ 30 ∧ (∀ xs ∈ xss, (xs.length : Int) ≤ h) ∧ (∀ b ∈ xss.flatten, 1 ≤ b ∧ b ≤ 999999) ∧ xss.flatten.Nodup
instance (xss : List (List Int)) (h : Int) : Decidable (RightP xss h) := inferInstanceAs (Decidable (_ ∧ _))
def rightB (xss : List (List Int)) (h : Int) : Bool := decide (RightP xss h)
theorem rightB_true {xss : List (List Int)} {h : Int} : rightB xss h = true ↔ RightP xss h := by simp [rightB]
theorem rightB_false {xss : List (List Int)} {h : Int} : rightB xss h = false ↔ ¬ RightP xss h := by simp [rightB]
theorem flatten_take_succ {xss : List (List Int)} {i : Nat} (h : i < xss.length) : (xss.take (i + 1)).flatten = (xss.take i).flatten ++ xss[i] := by
  rw [List.take_succ_eq_append_getElem h, List.flatten_append, List.flatten_cons, List.flatten_nil, List.append_nil]
theorem flatten_prefix {xss : List (List Int)} {i j : Nat} (h : i < xss.length) : ∃ r, xss.flatten = (xss.take i).flatten ++ xss[i].take j ++ r := by
  refine ⟨xss[i].drop j ++ (xss.drop (i + 1)).flatten, ?_⟩
  have h1 : xss = xss.take (i + 1) ++ xss.drop (i + 1) := (List.take_append_drop _ _).symm
  rw [List.append_assoc, ← List.append_assoc (xss[i].take j), List.take_append_drop]
  conv => lhs; rw [h1]
  rw [List.flatten_append, flatten_take_succ h, List.append_assoc]
theorem not_right_of_prefix {xss : List (List Int)} {h : Int} {l r : List Int} (e : xss.flatten = l ++ r) (hn : ¬ ((∀ b ∈ l, 1 ≤ b ∧ b ≤ 999999) ∧ l.Nodup)) : ¬ RightP xss h := by
  rintro ⟨_, _, _, _, _, h1, h2⟩
  rw [e] at h1 h2
  exact hn ⟨fun b hb => h1 b (List.mem_append_left _ hb), (List.nodup_append.1 h2).1⟩
def findL : List (List Int) → Int → Option (Nat × Nat)
  | [], _ => none
  | xs :: xss, b => if b ∈ xs then some (0, xs.idxOf b) else (findL xss b).map fun p => (p.1 + 1, p.2)
theorem findL_append (l r : List (List Int)) (b : Int) (h : ∀ xs ∈ l, b ∉ xs) : findL (l ++ r) b = (findL r b).map fun p => (p.1 + l.length, p.2) := by
  induction l with
  | nil => simp
  | cons x l ih =>
    have h1 : b ∉ x := h x List.mem_cons_self
    simp only [List.cons_append, findL, if_neg h1, ih (fun xs hx => h xs (List.mem_cons_of_mem _ hx)), Option.map_map]
    congr 1
theorem findL_hit {xss : List (List Int)} {b : Int} {i : Nat} (hi : i < xss.length) (hn : ∀ xs ∈ xss.take i, b ∉ xs) (hb : b ∈ xss[i]) : findL xss b = some (i, xss[i].idxOf b) := by
  have h1 : xss = xss.take i ++ xss.drop i := (List.take_append_drop _ _).symm
  have h2 : findL xss b = (findL (xss.drop i) b).map fun p => (p.1 + (xss.take i).length, p.2) := by
    conv => lhs; rw [h1]
    exact findL_append _ _ b hn
  rw [h2, List.drop_eq_getElem_cons hi]
  simp [findL, hb]
  omega
theorem findL_miss {xss : List (List Int)} {b : Int} (hn : ∀ xs ∈ xss, b ∉ xs) : findL xss b = none := by
  have := findL_append xss [] b hn
  simpa [findL] using this
theorem findL_some {xss : List (List Int)} {b : Int} {i k : Nat} (h : findL xss b = some (i, k)) : ∃ hi : i < xss.length, ∃ hk : k < xss[i].length, xss[i][k] = b ∧ ∀ xs ∈ xss.take i, b ∉ xs := by
  induction xss generalizing i k with
  | nil => simp [findL] at h
  | cons x xss ih =>
    by_cases hb : b ∈ x
    · simp only [findL, if_pos hb, Option.some.injEq, Prod.mk.injEq] at h
      obtain ⟨rfl, rfl⟩ := h
      exact ⟨by simp, List.idxOf_lt_length_iff.2 hb, by simp, by simp⟩
    · simp only [findL, if_neg hb] at h
      cases hf : findL xss b with
      | none => simp [hf] at h
      | some p =>
        obtain ⟨i', k'⟩ := p
        simp only [hf, Option.map_some, Option.some.injEq, Prod.mk.injEq] at h
        obtain ⟨rfl, rfl⟩ := h
        obtain ⟨h1, h2, h3, h4⟩ := ih hf
        refine ⟨by simpa using h1, by simpa using h2, by simpa using h3, ?_⟩
        intro xs hx
        simp only [List.take_succ_cons, List.mem_cons] at hx
        rcases hx with rfl | hx
        · exact hb
        · exact h4 xs hx
theorem findL_none {xss : List (List Int)} {b : Int} (h : findL xss b = none) : b ∉ xss.flatten := by
  induction xss with
  | nil => simp
  | cons x xss ih =>
    by_cases hb : b ∈ x
    · simp [findL, hb] at h
    · simp only [findL, if_neg hb, Option.map_eq_none_iff] at h
      simp [hb]
      simpa using ih h
end Go.Proofs.Ytfdmndkoiheebaa
