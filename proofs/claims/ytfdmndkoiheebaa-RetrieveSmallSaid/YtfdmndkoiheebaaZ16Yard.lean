import Derived.Test.YtfdmndkoiheebaaZ16A6
namespace Go.Proofs.Ytfdmndkoiheebaa
open Go Go.RowKit
theorem cut0 (a : Option Addr) (n c r : Nat) : cut 1 (.slice a n c) 0 r = .slice a r c := by
  have e : (if c = 0 then a else a.map (·.add (0 * 1))) = a := by
    split
    · rfl
    · cases a <;> simp [Addr.add]
  simp only [cut, e, Nat.sub_zero]
theorem keptWaters (w : World) {v1 v2 : Value} {us2 : List Value} {xss : List (List Int)} (h1 : LentM w v1 xss) (h2 : Mat w v2 us2 xss) (hl : xss.length < 1000000) (hx : ∀ xs ∈ xss, xs.length < 1000000) :
    Calls Try.prog 69 #[v1, v2] w (Ret fun r w' => Ext w w' ∧ r = .bool true) := by
  obtain ⟨us1, h1r⟩ := h1.mat
  obtain ⟨v0, us, ms, hS, hv, hR, hM⟩ := h1
  obtain ⟨a0, c0, rfl, hc0, _⟩ := id hS
  rw [cut0] at hv
  have hF : Row w 1 (cut 1 v1 0 (xss.length + 12)) (xss.length + 12) (us ++ ms) := by rw [hv, cut0]; exact hS.row
  have hul := hR.1
  refine calls_E (args := [v1, v2]) 58 Try.func69 rfl rfl (by simp) ?_
  have hE : Ext w w := Upd.refl w
  refine E.seq ?_
  refine E.regionP rfl ?_
  refine R.assign ?_
  refine R.nil ?_
  refine E.seq ?_
  refine E.seq ?_
  refine E.regionP rfl ?_
  refine R.move ?_
  refine R.len Try.underlying22 h1r.row rfl ?_
  refine R.move ?_
  refine R.len Try.underlying22 h2.row rfl ?_
  refine R.neq (b := false) rfl rfl (by simp) ?_
  refine R.nil ?_
  refine E.condF rfl ?_
  refine E.skip ?_
  refine E.seq ?_
  refine E.regionP rfl ?_
  refine R.move ?_
  refine R.move ?_
  refine R.len Try.underlying22 h2.row rfl ?_
  refine R.addN (n := 12) rfl rfl (by omega) ?_
  refine R.slc (l := 0) (r := xss.length + 12) Try.underlying22 t35 rfl hv rfl ⟨_, rfl⟩ (Nat.zero_le _) hc0 ?_
  refine R.assign ?_
  refine R.nil ?_
  refine E.seq ?_
  refine E.seq ?_
  refine E.regionP rfl ?_
  refine R.assign ?_
  refine R.nil ?_
  refine E.block ?_
  refine E.loop (fun n e wr => ∃ i : Nat, n = xss.length + 12 - i ∧ i ≤ xss.length + 12 ∧ Ext w wr ∧ Has e [(1, v2), (5, cut 1 v1 0 (xss.length + 12)), (6, .int .i64 i)]) (xss.length + 12) ?_ ?_
  · exact ⟨0, rfl, Nat.zero_le _, hE, rfl, rfl, rfl, trivial⟩
  · rintro n e wr ⟨i, rfl, hi, hE, hH⟩
    obtain ⟨e, rfl⟩ := hH.ex
    clear hH
    refine E.seq ?_
    refine E.seq ?_
    refine E.regionP rfl ?_
    refine R.move ?_
    refine R.move ?_
    refine R.len Try.underlying22 hF rfl ?_
    refine R.lss rfl rfl rfl ?_
    refine R.nil ?_
    refine E.cond rfl (fun hc20 => ?_) (fun hc20 => ?_)
    · replace hc20 := dT hc20
      refine E.skip ?_
      refine E.seq ?_
      refine E.block ?_
      refine E.seq ?_
      by_cases hlt : i < xss.length
      · refine E.regionW (fun _ b => b < wr.heap.size) [] mixed rfl (by kernel_rfl) ?_
        intro w1 hx1 hh1
        replace hE := hE.ext hx1
        have hEs : Ext w1 w1 := Upd.refl _
        have hS0 := hx1.size
        have hSs : ∀ b, b < w1.heap.size → b < wr.heap.size := fun b hb => by rw [hh1] at hb; exact hb
        have hSa : ∀ b, b < w.heap.size → b < wr.heap.size := fun b hb => by have := hE.size; rw [hh1] at this; omega
        refine R.move ?_
        refine R.move ?_
        refine R.len Try.underlying22 h2.row rfl ?_
        refine R.lss (b := true) rfl rfl (decide_eq_true (by omega)) ?_
        refine R.move ?_
        refine R.gT rfl rfl ?_
        refine R.move ?_
        refine R.gT rfl rfl ?_
        refine R.move ?_
        refine R.gT rfl rfl ?_
        refine R.ix Try.underlying22 t35 (by decide) hF rfl rfl (by omega) ?_
        refine R.gT rfl rfl ?_
        obtain ⟨u31, hu31, hL31⟩ := hR.2 i hlt
        refine R.ldE t35 hF hE rfl (by rw [List.getElem?_append_left (by omega)]; exact hu31) rfl hSa ?_
        refine R.gT rfl rfl ?_
        refine R.move ?_
        refine R.gT rfl rfl ?_
        refine R.move ?_
        refine R.gT rfl rfl ?_
        refine R.ix Try.underlying22 t35 (by decide) h2.row rfl rfl (by omega) ?_
        refine R.gT rfl rfl ?_
        obtain ⟨u35, hu35, hr35⟩ := h2.get i (by omega)
        refine R.ldE t35 h2.row hE rfl hu35 rfl hSa ?_
        refine R.gT rfl rfl ?_
        refine R.callE2 ent83 (keptInts _ (hL31.ext hE) (hr35.ext hE) (hx _ (List.getElem_mem _))) rfl rfl (fun _ _ hb => Nat.lt_of_lt_of_le hb (Nat.le_trans hS0 hEs.size)) ?_
        rintro v36 w2 hx2 rfl
        replace hE := hE.ext hx2
        replace hEs := hEs.ext hx2
        refine R.gT rfl rfl ?_
        refine R.not rfl ?_
        refine R.pickT rfl ?_
        refine R.move ?_
        refine R.gT rfl rfl ?_
        refine R.move ?_
        refine R.gT rfl rfl ?_
        refine R.move ?_
        refine R.gT rfl rfl ?_
        refine R.len Try.underlying22 h2.row rfl ?_
        refine R.gT rfl rfl ?_
        refine R.geq (b := false) rfl rfl (decide_eq_false (by omega)) ?_
        refine R.gT rfl rfl ?_
        refine R.move ?_
        refine R.gF rfl rfl rfl ?_
        refine R.gF rfl rfl rfl ?_
        refine R.gF rfl rfl rfl ?_
        refine R.gF rfl rfl rfl ?_
        refine R.gF rfl rfl rfl ?_
        refine R.gF rfl rfl rfl ?_
        refine R.gF rfl rfl rfl ?_
        refine R.gF rfl rfl rfl ?_
        refine R.gF rfl rfl rfl ?_
        refine R.gF rfl rfl rfl ?_
        refine R.gF rfl rfl rfl ?_
        refine R.gT rfl rfl ?_
        refine R.pickF rfl ?_
        refine R.pickF rfl ?_
        refine R.nil ?_
        refine E.condF rfl ?_
        refine E.skip ?_
        refine E.regionP rfl ?_
        refine R.move ?_
        refine R.addN (n := 1) rfl rfl (by omega) ?_
        refine R.assign ?_
        refine R.nil ?_
        exact ⟨xss.length + 12 - (i + 1), by omega, i + 1, rfl, by omega, hE, rfl, rfl, rfl, trivial⟩
      · refine E.regionW (fun _ b => b < wr.heap.size) [] mixed rfl (by kernel_rfl) ?_
        intro w3 hx3 hh3
        replace hE := hE.ext hx3
        have hEs : Ext w3 w3 := Upd.refl _
        have hS0 := hx3.size
        have hSs : ∀ b, b < w3.heap.size → b < wr.heap.size := fun b hb => by rw [hh3] at hb; exact hb
        have hSa : ∀ b, b < w.heap.size → b < wr.heap.size := fun b hb => by have := hE.size; rw [hh3] at this; omega
        refine R.move ?_
        refine R.move ?_
        refine R.len Try.underlying22 h2.row rfl ?_
        refine R.lss (b := false) rfl rfl (decide_eq_false (by omega)) ?_
        refine R.move ?_
        refine R.gF rfl rfl rfl ?_
        refine R.gF rfl rfl rfl ?_
        refine R.gF rfl rfl rfl ?_
        refine R.gF rfl rfl rfl ?_
        refine R.gF rfl rfl rfl ?_
        refine R.gF rfl rfl rfl ?_
        refine R.gF rfl rfl rfl ?_
        refine R.gF rfl rfl rfl ?_
        refine R.gF rfl rfl rfl ?_
        refine R.gF rfl rfl rfl ?_
        refine R.pickF rfl ?_
        refine R.move ?_
        refine R.gT rfl rfl ?_
        refine R.move ?_
        refine R.gT rfl rfl ?_
        refine R.move ?_
        refine R.gT rfl rfl ?_
        refine R.len Try.underlying22 h2.row rfl ?_
        refine R.gT rfl rfl ?_
        refine R.geq (b := true) rfl rfl (decide_eq_true (by omega)) ?_
        refine R.gT rfl rfl ?_
        refine R.move ?_
        refine R.gT rfl rfl ?_
        refine R.move ?_
        refine R.gT rfl rfl ?_
        refine R.move ?_
        refine R.gT rfl rfl ?_
        refine R.ix Try.underlying22 t35 (by decide) hF rfl rfl (by omega) ?_
        refine R.gT rfl rfl ?_
        obtain ⟨u48, hu48, hm48⟩ := hM.2 (i - xss.length) (by omega)
        refine R.ldE t35 hF hE rfl (by rw [List.getElem?_append_right (by omega), hul]; exact hu48) rfl hSa ?_
        refine R.gT rfl rfl ?_
        refine R.move ?_
        refine R.gT rfl rfl ?_
        refine R.move ?_
        refine R.gT rfl rfl ?_
        refine R.len Try.underlying22 h2.row rfl ?_
        refine R.gT rfl rfl ?_
        refine R.subN rfl rfl (by omega) (by omega) ?_
        refine R.gT rfl rfl ?_
        refine R.callE2 ent91 (markWater_ _ (k := 1) (i := i - xss.length) (by decide) (by omega)) rfl rfl (fun _ _ hb => Nat.lt_of_lt_of_le hb (Nat.le_trans hS0 hEs.size)) ?_
        rintro v53 w4 hx4 ⟨hS53, hf53⟩
        replace hE := hE.ext hx4
        replace hEs := hEs.ext hx4
        refine R.gT rfl rfl ?_
        refine R.callE2 ent56 (sameInts _ (hm48.ext hE).row hS53.row (by simp) (by simp)) rfl rfl (fun _ _ hb => Nat.lt_of_lt_of_le hb (Nat.le_trans hS0 hEs.size)) ?_
        rintro v54 w5 hx5 rfl
        simp only [decide_true]
        replace hS53 := hS53.ext hx5
        replace hE := hE.ext hx5
        replace hEs := hEs.ext hx5
        refine R.gT rfl rfl ?_
        refine R.not rfl ?_
        refine R.gT rfl rfl ?_
        refine R.pickT rfl ?_
        refine R.pickF rfl ?_
        refine R.nil ?_
        refine E.condF rfl ?_
        refine E.skip ?_
        refine E.regionP rfl ?_
        refine R.move ?_
        refine R.addN (n := 1) rfl rfl (by omega) ?_
        refine R.assign ?_
        refine R.nil ?_
        exact ⟨xss.length + 12 - (i + 1), by omega, i + 1, rfl, by omega, hE, rfl, rfl, rfl, trivial⟩
    · replace hc20 := dF hc20
      refine E.exit ?_
      refine E.seq ?_
      refine E.regionP rfl ?_
      refine R.assign ?_
      refine R.nil ?_
      refine E.ret ?_
      exact ret1 (.bool true) rfl rfl ⟨_, rfl, hE, rfl⟩
theorem own (w : World) {v : Value} {k : Int} {us : List Value} {xss : List (List Int)} (h : Mat w v us xss) (hl : xss.length < 1000000) (hx : ∀ xs ∈ xss, xs.length < 1000000) :
    Calls Try.prog 30 #[.agg #[v, .int .i64 k]] w (Ret fun r w' => Ext w w' ∧ ∃ v', r = .agg #[v', .int .i64 k] ∧ LentM w' v' xss ∧ Fresh w v') := by
  refine calls_E (args := [.agg #[v, .int .i64 k]]) 8 Try.func30 rfl rfl (by simp) ?_
  have hE : Ext w w := Upd.refl w
  refine E.seq ?_
  refine E.regionP rfl ?_
  refine R.box rfl nofun ?_
  intro b1 w1 hb1 hx1 hB1
  replace hb1 := Nat.le_trans hE.size hb1
  replace hE := hE.ext hx1
  replace hB1 : Blk _ b1 24 #[v, .int .i64 k] := hB1
  refine R.alloc t24 nofun ?_
  intro b2 w2 hb2 hx2 hB2
  have ne1_2 : b1 ≠ b2 := by have := hB1.lt; omega
  replace hb2 := Nat.le_trans hE.size hb2
  replace hB1 := hB1.ext hx2
  replace hE := hE.ext hx2
  replace hB2 : Blk _ b2 24 #[.slice none 0 0, .int .i64 0] := hB2
  refine R.nil ?_
  refine E.seq ?_
  refine E.regionP rfl ?_
  refine R.fld fa24_0 rfl ?_
  refine R.loadB t22 hB1 rfl rfl rfl trivial ?_
  refine R.callE1 ent66 (lentWaters _ (h.ext hE) hl hx) rfl nofun ?_
  rintro v5 w3 hx3 ⟨hL5, hf5⟩
  replace hf5 := hf5.mono hE.size
  replace hB1 := hB1.ext hx3
  replace hB2 := hB2.ext hx3
  replace hE := hE.ext hx3
  refine R.fld fa24_0 rfl ?_
  refine R.store t22 hB1 rfl rfl (hL5.one) (by simp) nofun ?_
  intro w4 hU4 hs4 hN4
  replace hL5 := hL5.upT hU4 hB1 (by decide)
  replace hB2 := hB2.up hU4 (fun h => ne1_2 h.symm)
  replace hE := hE.own hU4 hb1
  replace hB1 : Blk _ b1 24 #[v5, .int .i64 k] := hN4
  clear hN4
  refine R.nil ?_
  refine E.seq ?_
  refine E.regionP rfl ?_
  refine R.loadA t24 hB1 rfl rfl rfl trivial ?_
  refine R.storeA t24 hB2 rfl rfl rfl rfl (ones2 hL5.one rfl) nofun ?_
  intro w5 hU5 hs5 hN5
  replace hL5 := hL5.upT hU5 hB2 (by decide)
  replace hB1 := hB1.up hU5 (fun h => ne1_2 h)
  replace hE := hE.own hU5 hb2
  replace hB2 : Blk _ b2 24 #[v5, .int .i64 k] := hN5
  clear hN5
  refine R.nil ?_
  refine E.ret ?_
  exact retA t24 hB2 rfl rfl rfl ⟨_, rfl, hE, _, rfl, hL5, hf5⟩
theorem kept (w : World) {v1 v2 : Value} {k : Int} {us2 : List Value} {xss : List (List Int)} (h1 : LentM w v1 xss) (h2 : Mat w v2 us2 xss) (hl : xss.length < 1000000) (hx : ∀ xs ∈ xss, xs.length < 1000000) :
    Calls Try.prog 33 #[.agg #[v1, .int .i64 k], .agg #[v2, .int .i64 k]] w (Ret fun r w' => Ext w w' ∧ r = .bool true) := by
  refine calls_E (args := [.agg #[v1, .int .i64 k], .agg #[v2, .int .i64 k]]) 17 Try.func33 rfl rfl (by simp) ?_
  have hE : Ext w w := Upd.refl w
  refine E.seq ?_
  refine E.regionP rfl ?_
  refine R.box rfl nofun ?_
  intro b2 w1 hb2 hx1 hB2
  replace hb2 := Nat.le_trans hE.size hb2
  replace hE := hE.ext hx1
  replace hB2 : Blk _ b2 24 #[v1, .int .i64 k] := hB2
  refine R.box rfl nofun ?_
  intro b3 w2 hb3 hx2 hB3
  have ne2_3 : b2 ≠ b3 := by have := hB2.lt; omega
  replace hb3 := Nat.le_trans hE.size hb3
  replace hB2 := hB2.ext hx2
  replace hE := hE.ext hx2
  replace hB3 : Blk _ b3 24 #[v2, .int .i64 k] := hB3
  refine R.assign ?_
  refine R.nil ?_
  refine E.seq ?_
  refine E.regionP rfl ?_
  refine R.fld fa24_1 rfl ?_
  refine R.loadB t3 hB2 rfl rfl rfl trivial ?_
  refine R.fld fa24_1 rfl ?_
  refine R.loadB t3 hB3 rfl rfl rfl trivial ?_
  refine R.eql (b := true) rfl rfl (decide_eq_true rfl) ?_
  refine R.move ?_
  refine R.gT rfl rfl ?_
  refine R.fld fa24_0 rfl ?_
  refine R.gT rfl rfl ?_
  refine R.loadB t22 hB2 rfl rfl rfl trivial ?_
  refine R.gT rfl rfl ?_
  refine R.fld fa24_0 rfl ?_
  refine R.gT rfl rfl ?_
  refine R.loadB t22 hB3 rfl rfl rfl trivial ?_
  refine R.gT rfl rfl ?_
  refine R.callE2 ent69 (keptWaters _ (h1.ext hE) (h2.ext hE) hl hx) rfl rfl nofun ?_
  rintro v15 w3 hx3 rfl
  replace hB2 := hB2.ext hx3
  replace hB3 := hB3.ext hx3
  replace hE := hE.ext hx3
  refine R.pickT rfl ?_
  refine R.assign ?_
  refine R.nil ?_
  refine E.ret ?_
  exact ret1 (.bool true) rfl rfl ⟨_, rfl, hE, rfl⟩
end Go.Proofs.Ytfdmndkoiheebaa

namespace Go.Proofs.Ytfdmndkoiheebaa
def RightP (xss : List (List Int)) (h : Int) : Prop :=
  1 ≤ h ∧ h ≤ 6 ∧ 1 ≤ xss.length ∧ xss.length ≤ 30 ∧ (∀ xs ∈ xss, (xs.length : Int) ≤ h) ∧ (∀ b ∈ xss.flatten, 1 ≤ b ∧ b ≤ 999999) ∧ xss.flatten.Nodup
instance (xss : List (List Int)) (h : Int) : Decidable (RightP xss h) := inferInstanceAs (Decidable (_ ∧ _))
def rightB (xss : List (List Int)) (h : Int) : Bool := decide (RightP xss h)
theorem rightB_true {xss : List (List Int)} {h : Int} : rightB xss h = true ↔ RightP xss h := by simp [rightB]
theorem rightB_false {xss : List (List Int)} {h : Int} : rightB xss h = false ↔ ¬ RightP xss h := by simp [rightB]
theorem flatten_take_succ {xss : List (List Int)} {i : Nat} (h : i < xss.length) : (xss.take (i + 1)).flatten = (xss.take i).flatten ++ xss[i] := by
  rw [List.take_succ_eq_append_getElem h, List.flatten_append, List.flatten_cons, List.flatten_nil, List.append_nil]
theorem flatten_prefix {xss : List (List Int)} {i j : Nat} (h : i < xss.length) : ∃ r, xss.flatten = (xss.take i).flatten ++ xss[i].take j ++ r := by
  refine ⟨xss[i].drop j ++ (xss.drop (i + 1)).flatten, ?_⟩
  have h1 : xss = xss.take (i + 1) ++ xss.drop (i + 1) := (List.take_append_drop _ _).symm
  rw [List.append_assoc, ← List.append_assoc (xss[i].take j), List.take_append_drop]
  conv => lhs; rw [h1]
  rw [List.flatten_append, flatten_take_succ h, List.append_assoc]
theorem not_right_of_prefix {xss : List (List Int)} {h : Int} {l r : List Int} (e : xss.flatten = l ++ r) (hn : ¬ ((∀ b ∈ l, 1 ≤ b ∧ b ≤ 999999) ∧ l.Nodup)) : ¬ RightP xss h := by
  rintro ⟨_, _, _, _, _, h1, h2⟩
  rw [e] at h1 h2
  exact hn ⟨fun b hb => h1 b (List.mem_append_left _ hb), (List.nodup_append.1 h2).1⟩
def findL : List (List Int) → Int → Option (Nat × Nat)
  | [], _ => none
  | xs :: xss, b => if b ∈ xs then some (0, xs.idxOf b) else (findL xss b).map fun p => (p.1 + 1, p.2)
theorem findL_append (l r : List (List Int)) (b : Int) (h : ∀ xs ∈ l, b ∉ xs) : findL (l ++ r) b = (findL r b).map fun p => (p.1 + l.length, p.2) := by
  induction l with
  | nil => simp
  | cons x l ih =>
    have h1 : b ∉ x := h x List.mem_cons_self
    simp only [List.cons_append, findL, if_neg h1, ih (fun xs hx => h xs (List.mem_cons_of_mem _ hx)), Option.map_map]
    congr 1
theorem findL_hit {xss : List (List Int)} {b : Int} {i : Nat} (hi : i < xss.length) (hn : ∀ xs ∈ xss.take i, b ∉ xs) (hb : b ∈ xss[i]) : findL xss b = some (i, xss[i].idxOf b) := by
  have h1 : xss = xss.take i ++ xss.drop i := (List.take_append_drop _ _).symm
  have h2 : findL xss b = (findL (xss.drop i) b).map fun p => (p.1 + (xss.take i).length, p.2) := by
    conv => lhs; rw [h1]
    exact findL_append _ _ b hn
  rw [h2, List.drop_eq_getElem_cons hi]
  simp [findL, hb]
  omega
theorem findL_miss {xss : List (List Int)} {b : Int} (hn : ∀ xs ∈ xss, b ∉ xs) : findL xss b = none := by
  have := findL_append xss [] b hn
  simpa [findL] using this
theorem findL_some {xss : List (List Int)} {b : Int} {i k : Nat} (h : findL xss b = some (i, k)) : ∃ hi : i < xss.length, ∃ hk : k < xss[i].length, xss[i][k] = b ∧ ∀ xs ∈ xss.take i, b ∉ xs := by
  induction xss generalizing i k with
  | nil => simp [findL] at h
  | cons x xss ih =>
    by_cases hb : b ∈ x
    · simp only [findL, if_pos hb, Option.some.injEq, Prod.mk.injEq] at h
      obtain ⟨rfl, rfl⟩ := h
      exact ⟨by simp, List.idxOf_lt_length_iff.2 hb, by simp, by simp⟩
    · simp only [findL, if_neg hb] at h
      cases hf : findL xss b with
      | none => simp [hf] at h
      | some p =>
        obtain ⟨i', k'⟩ := p
        simp only [hf, Option.map_some, Option.some.injEq, Prod.mk.injEq] at h
        obtain ⟨rfl, rfl⟩ := h
        obtain ⟨h1, h2, h3, h4⟩ := ih hf
        refine ⟨by simpa using h1, by simpa using h2, by simpa using h3, ?_⟩
        intro xs hx
        simp only [List.take_succ_cons, List.mem_cons] at hx
        rcases hx with rfl | hx
        · exact hb
        · exact h4 xs hx
theorem findL_none {xss : List (List Int)} {b : Int} (h : findL xss b = none) : b ∉ xss.flatten := by
  induction xss with
  | nil => simp
  | cons x xss ih =>
    by_cases hb : b ∈ x
    · simp [findL, hb] at h
    · simp only [findL, if_neg hb, Option.map_eq_none_iff] at h
      simp [hb]
      simpa using ih h
end Go.Proofs.Ytfdmndkoiheebaa
