import Derived.Test.YtfdmndkoiheebaaZ16J13
namespace Go.Proofs.Ytfdmndkoiheebaa
open Go Go.RowKit
theorem rLeast (w : World) {v vo : Value} {xs ord : List Int} (h : Ints w v xs) (ho : Ints w vo ord) (hl : xs.length < 1000000000) (hol : ord.length < 1000000000) :
    Calls Try.prog 101 #[v, vo] w (Ret fun r w' => Ext w w' ∧ r = .int .i64 (leastL ord xs : Nat)) := by
  refine calls_E (args := [v, vo]) 31 Try.func101 rfl rfl (by simp) ?_
  have hE : Ext w w := Upd.refl w
  refine E.seq ?_
  refine E.regionP rfl ?_
  refine R.assign ?_
  refine R.nil ?_
  refine E.seq ?_
  refine E.regionP rfl ?_
  refine R.move ?_
  refine R.len Try.underlying35 ho rfl ?_
  refine R.addN (n := 1) rfl rfl (by omega) ?_
  refine R.assign ?_
  refine R.nil ?_
  refine E.seq ?_
  refine E.seq ?_
  refine E.regionP rfl ?_
  refine R.assign ?_
  refine R.nil ?_
  refine E.block ?_
  refine E.loop (fun n e wr => ∃ (i m : Nat), n = xs.length - i ∧ i ≤ xs.length ∧ (xs.drop i).foldl (fun m b => min m (rankL ord b)) m = leastL ord xs ∧ Ext w wr ∧ Has e [(0, v), (1, vo), (5, .int .i64 (m : Nat)), (6, .int .i64 (i : Nat))]) (xs.length) ?_ ?_
  · exact ⟨0, ord.length + 1, rfl, Nat.zero_le _, rfl, hE, rfl, rfl, rfl, rfl, trivial⟩
  · rintro n e wr ⟨i, m, rfl, hi, hq, hE, hH⟩
    obtain ⟨e, rfl⟩ := hH.ex
    clear hH
    refine E.seq ?_
    refine E.seq ?_
    refine E.regionP rfl ?_
    refine R.move ?_
    refine R.move ?_
    refine R.len Try.underlying35 h rfl ?_
    refine R.lss rfl rfl rfl ?_
    refine R.nil ?_
    refine E.cond rfl (fun hc13 => ?_) (fun hc13 => ?_)
    · replace hc13 := dT hc13
      have hi1 : i < xs.length := by omega
      rw [foldl_drop hi1] at hq
      refine E.skip ?_
      refine E.seq ?_
      refine E.block ?_
      refine E.seq ?_
      refine E.regionP rfl ?_
      refine R.move ?_
      refine R.move ?_
      refine R.move ?_
      refine R.ix Try.underlying35 t3 (by decide) h rfl rfl (by omega) ?_
      refine R.ld t3 (h.ext hE) rfl (int_at (by omega)) rfl (fun _ _ => trivial) ?_
      refine R.callE2 ent86 (rRank _ (b := xs[i]) (ho.ext hE) hol) rfl rfl nofun ?_
      rintro v21 w1 hx1 rfl
      replace hE := hE.ext hx1
      refine R.move ?_
      refine R.lss rfl rfl rfl ?_
      refine R.nil ?_
      refine E.cond rfl (fun hc23 => ?_) (fun hc23 => ?_)
      · replace hc23 := dT hc23
        refine E.regionP rfl ?_
        refine R.move ?_
        refine R.move ?_
        refine R.move ?_
        refine R.ix Try.underlying35 t3 (by decide) h rfl rfl (by omega) ?_
        refine R.ld t3 (h.ext hE) rfl (int_at (by omega)) rfl (fun _ _ => trivial) ?_
        refine R.callE2 ent86 (rRank _ (b := xs[i]) (ho.ext hE) hol) rfl rfl nofun ?_
        rintro v29 w2 hx2 rfl
        replace hE := hE.ext hx2
        refine R.assign ?_
        refine R.nil ?_
        refine E.regionP rfl ?_
        refine R.move ?_
        refine R.addN (n := 1) rfl rfl (by omega) ?_
        refine R.assign ?_
        refine R.nil ?_
        exact ⟨xs.length - (i + 1), by omega, i + 1, rankL ord xs[i], rfl, by omega, by rw [← hq]; congr 1; omega, hE, rfl, rfl, rfl, rfl, trivial⟩
      · replace hc23 := dF hc23
        refine E.skip ?_
        refine E.regionP rfl ?_
        refine R.move ?_
        refine R.addN (n := 1) rfl rfl (by omega) ?_
        refine R.assign ?_
        refine R.nil ?_
        exact ⟨xs.length - (i + 1), by omega, i + 1, m, rfl, by omega, by rw [← hq]; congr 1; omega, hE, rfl, rfl, rfl, rfl, trivial⟩
    · replace hc13 := dF hc13
      refine E.exit ?_
      refine E.seq ?_
      refine E.regionP rfl ?_
      refine R.move ?_
      refine R.assign ?_
      refine R.nil ?_
      refine E.ret ?_
      obtain rfl : i = xs.length := by omega
      rw [List.drop_length] at hq
      exact ret1 (.int .i64 (m : Nat)) rfl rfl ⟨_, rfl, hE, by rw [← hq]; rfl⟩
set_option maxHeartbeats 1600000 in
theorem rBest (w : World) {v vo : Value} {H : Nat} {us : List Value} {xss : List (List Int)} {ord : List Int} {fr : Int} (hm : Mat w v us xss) (ho : Ints w vo ord) (hR : RightP xss (H : Int)) (hol : ord.length < 1000000) :
    Calls Try.prog 89 #[.agg #[v, .int .i64 H], .int .i64 fr, vo] w (Ret fun r w' => Ext w w' ∧ r = .int .i64 (othB xss H ord fr xss.length).1) := by
  have hl30 := hR.2.2.2.1
  have hx6 := sum_lengths hR
  refine calls_E (args := [.agg #[v, .int .i64 H], .int .i64 fr, vo]) 53 Try.func89 rfl rfl (by simp) ?_
  have hE : Ext w w := Upd.refl w
  refine E.seq ?_
  refine E.regionP rfl ?_
  refine R.box rfl nofun ?_
  intro b3 w1 hb3 hx1 hB3
  replace hb3 := Nat.le_trans hE.size hb3
  replace hE := hE.ext hx1
  replace hB3 : Blk _ b3 54 #[v, .int .i64 H] := hB3
  refine R.assign ?_
  refine R.nil ?_
  refine E.seq ?_
  refine E.regionP rfl ?_
  refine R.assign ?_
  refine R.nil ?_
  refine E.seq ?_
  refine E.seq ?_
  refine E.regionP rfl ?_
  refine R.assign ?_
  refine R.nil ?_
  refine E.block ?_
  refine E.loop (fun n e wr => ∃ (i : Nat) (o : Int), n = xss.length - i ∧ i ≤ xss.length ∧ (othB xss H ord fr i).1 = o ∧ Ext w wr ∧ Blk wr b3 54 #[v, .int .i64 H] ∧ Has e [(1, .int .i64 fr), (2, vo), (3, .pointer (some ⟨b3, 0, none⟩)), (7, .int .i64 o), (8, .int .i64 (i : Nat))]) (xss.length) ?_ ?_
  · exact ⟨0, -1, rfl, Nat.zero_le _, rfl, hE, hB3, rfl, rfl, rfl, rfl, rfl, trivial⟩
  · rintro n e wr ⟨i, o, rfl, hi, hqo, hE, hB3, hH⟩
    obtain ⟨e, rfl⟩ := hH.ex
    clear hH
    refine E.seq ?_
    refine E.seq ?_
    refine E.regionP rfl ?_
    refine R.move ?_
    refine R.fld fa54_0 rfl ?_
    refine R.loadB t22 hB3 rfl rfl rfl trivial ?_
    refine R.len Try.underlying22 hm.row rfl ?_
    refine R.lss rfl rfl rfl ?_
    refine R.nil ?_
    refine E.cond rfl (fun hc13 => ?_) (fun hc13 => ?_)
    · replace hc13 := dT hc13
      have hi1 : i < xss.length := by omega
      have hxi := hx6 _ (List.getElem_mem hi1)
      have hxH := hR.2.2.2.2.1 _ (List.getElem_mem hi1)
      have hsp := othB_spec (xss := xss) (H := H) (ord := ord) (fr := fr) i (by omega)
      refine E.skip ?_
      refine E.seq ?_
      refine E.block ?_
      refine E.seq ?_
      rcases (show (i : Int) = fr ∨ ((i : Int) ≠ fr ∧ xss[i].length = H) ∨ ((i : Int) ≠ fr ∧ xss[i].length ≠ H ∧ othB xss H ord fr i = (-1, -1)) ∨ ((i : Int) ≠ fr ∧ xss[i].length ≠ H ∧ ∃ (j : Nat) (hj : j < xss.length), (othB xss H ord fr i).1 = j ∧ (othB xss H ord fr i).2 = (leastL ord xss[j] : Nat)) by
        by_cases h1 : (i : Int) = fr
        · exact .inl h1
        · by_cases h2 : xss[i].length = H
          · exact .inr (.inl ⟨h1, h2⟩)
          · rcases hsp with h3 | ⟨j, hj, _, e1, _, _, e2⟩
            · exact .inr (.inr (.inl ⟨h1, h2, h3⟩))
            · exact .inr (.inr (.inr ⟨h1, h2, j, hj, e1, e2⟩))) with hq | ⟨hq, hq2⟩ | ⟨hq, hq2, hq3⟩ | ⟨hq, hq2, j, hj, e1, e2⟩
      · refine E.regionW (fun _ b => b < wr.heap.size) [] mixed rfl (by kernel_rfl) ?_
        intro w2 hx2 hh2
        replace hB3 := hB3.ext hx2
        replace hE := hE.ext hx2
        have hEs : Ext w2 w2 := Upd.refl _
        have hS0 := hx2.size
        have hSs : ∀ b, b < w2.heap.size → b < wr.heap.size := fun b hb => by rw [hh2] at hb; exact hb
        have hSa : ∀ b, b < w.heap.size → b < wr.heap.size := fun b hb => by have := hE.size; rw [hh2] at this; omega
        have hB3s := hB3
        refine R.move ?_
        refine R.move ?_
        refine R.neq (b := false) rfl rfl (by simp [hq]) ?_
        refine R.move ?_
        refine R.gF rfl rfl rfl ?_
        refine R.gF rfl rfl rfl ?_
        refine R.gF rfl rfl rfl ?_
        refine R.gF rfl rfl rfl ?_
        refine R.gF rfl rfl rfl ?_
        refine R.gF rfl rfl rfl ?_
        refine R.gF rfl rfl rfl ?_
        refine R.gF rfl rfl rfl ?_
        refine R.gF rfl rfl rfl ?_
        refine R.pickF rfl ?_
        refine R.move ?_
        refine R.gF rfl rfl rfl ?_
        refine R.gF rfl rfl rfl ?_
        refine R.gF rfl rfl rfl ?_
        refine R.gU rfl rfl ?_
        refine R.gU rfl rfl ?_
        refine R.gU rfl rfl ?_
        refine R.gU rfl rfl ?_
        refine R.gU rfl rfl ?_
        refine R.gU rfl rfl ?_
        refine R.gU rfl rfl ?_
        refine R.gU rfl rfl ?_
        refine R.gU rfl rfl ?_
        refine R.gU rfl rfl ?_
        refine R.gU rfl rfl ?_
        refine R.gU rfl rfl ?_
        refine R.gU rfl rfl ?_
        refine R.gU rfl rfl ?_
        refine R.gU rfl rfl ?_
        refine R.gF rfl rfl rfl ?_
        refine R.pickF rfl ?_
        refine R.nil ?_
        refine E.condF rfl ?_
        refine E.skip ?_
        refine E.regionP rfl ?_
        refine R.move ?_
        refine R.addN (n := 1) rfl rfl (by omega) ?_
        refine R.assign ?_
        refine R.nil ?_
        exact ⟨xss.length - (i + 1), by omega, i + 1, o, rfl, by omega, by rw [othB_skip hi1 (.inl hq)]; exact hqo, hE, hB3, rfl, rfl, rfl, rfl, rfl, trivial⟩
      · refine E.regionW (fun _ b => b < wr.heap.size) [] mixed rfl (by kernel_rfl) ?_
        intro w3 hx3 hh3
        replace hB3 := hB3.ext hx3
        replace hE := hE.ext hx3
        have hEs : Ext w3 w3 := Upd.refl _
        have hS0 := hx3.size
        have hSs : ∀ b, b < w3.heap.size → b < wr.heap.size := fun b hb => by rw [hh3] at hb; exact hb
        have hSa : ∀ b, b < w.heap.size → b < wr.heap.size := fun b hb => by have := hE.size; rw [hh3] at this; omega
        have hB3s := hB3
        refine R.move ?_
        refine R.move ?_
        refine R.neq (b := true) rfl rfl (by simp [hq]) ?_
        refine R.move ?_
        refine R.gT rfl rfl ?_
        refine R.fld fa54_0 rfl ?_
        refine R.gT rfl rfl ?_
        refine R.loadBE t22 hB3s hEs rfl rfl rfl hSs ?_
        refine R.gT rfl rfl ?_
        refine R.move ?_
        refine R.gT rfl rfl ?_
        refine R.ix Try.underlying22 t35 (by decide) hm.row rfl rfl (by omega) ?_
        refine R.gT rfl rfl ?_
        obtain ⟨u24, hu24, hr24⟩ := hm.get i (by omega)
        refine R.ldE t35 hm.row hE rfl hu24 rfl hSa ?_
        refine R.gT rfl rfl ?_
        refine R.len Try.underlying35 hr24 rfl ?_
        refine R.gT rfl rfl ?_
        refine R.fld fa54_1 rfl ?_
        refine R.gT rfl rfl ?_
        refine R.loadBE t3 hB3s hEs rfl rfl rfl hSs ?_
        refine R.gT rfl rfl ?_
        refine R.lss (b := false) rfl rfl (decide_eq_false (by omega)) ?_
        refine R.pickT rfl ?_
        refine R.move ?_
        refine R.gF rfl rfl rfl ?_
        refine R.gF rfl rfl rfl ?_
        refine R.gF rfl rfl rfl ?_
        refine R.gU rfl rfl ?_
        refine R.gU rfl rfl ?_
        refine R.gU rfl rfl ?_
        refine R.gU rfl rfl ?_
        refine R.gU rfl rfl ?_
        refine R.gU rfl rfl ?_
        refine R.gU rfl rfl ?_
        refine R.gU rfl rfl ?_
        refine R.gU rfl rfl ?_
        refine R.gU rfl rfl ?_
        refine R.gU rfl rfl ?_
        refine R.gU rfl rfl ?_
        refine R.gU rfl rfl ?_
        refine R.gU rfl rfl ?_
        refine R.gU rfl rfl ?_
        refine R.gF rfl rfl rfl ?_
        refine R.pickF rfl ?_
        refine R.nil ?_
        refine E.condF rfl ?_
        refine E.skip ?_
        refine E.regionP rfl ?_
        refine R.move ?_
        refine R.addN (n := 1) rfl rfl (by omega) ?_
        refine R.assign ?_
        refine R.nil ?_
        exact ⟨xss.length - (i + 1), by omega, i + 1, o, rfl, by omega, by rw [othB_skip hi1 (.inr hq2)]; exact hqo, hE, hB3, rfl, rfl, rfl, rfl, rfl, trivial⟩
      · have ho7 : o = -1 := by rw [← hqo, hq3]
        subst ho7
        refine E.regionW (fun _ b => b < wr.heap.size) [] mixed rfl (by kernel_rfl) ?_
        intro w4 hx4 hh4
        replace hB3 := hB3.ext hx4
        replace hE := hE.ext hx4
        have hEs : Ext w4 w4 := Upd.refl _
        have hS0 := hx4.size
        have hSs : ∀ b, b < w4.heap.size → b < wr.heap.size := fun b hb => by rw [hh4] at hb; exact hb
        have hSa : ∀ b, b < w.heap.size → b < wr.heap.size := fun b hb => by have := hE.size; rw [hh4] at this; omega
        have hB3s := hB3
        refine R.move ?_
        refine R.move ?_
        refine R.neq (b := true) rfl rfl (by simp [hq]) ?_
        refine R.move ?_
        refine R.gT rfl rfl ?_
        refine R.fld fa54_0 rfl ?_
        refine R.gT rfl rfl ?_
        refine R.loadBE t22 hB3s hEs rfl rfl rfl hSs ?_
        refine R.gT rfl rfl ?_
        refine R.move ?_
        refine R.gT rfl rfl ?_
        refine R.ix Try.underlying22 t35 (by decide) hm.row rfl rfl (by omega) ?_
        refine R.gT rfl rfl ?_
        obtain ⟨u24, hu24, hr24⟩ := hm.get i (by omega)
        refine R.ldE t35 hm.row hE rfl hu24 rfl hSa ?_
        refine R.gT rfl rfl ?_
        refine R.len Try.underlying35 hr24 rfl ?_
        refine R.gT rfl rfl ?_
        refine R.fld fa54_1 rfl ?_
        refine R.gT rfl rfl ?_
        refine R.loadBE t3 hB3s hEs rfl rfl rfl hSs ?_
        refine R.gT rfl rfl ?_
        refine R.lss (b := true) rfl rfl (decide_eq_true (by omega)) ?_
        refine R.pickT rfl ?_
        refine R.move ?_
        refine R.gT rfl rfl ?_
        refine R.move ?_
        refine R.gT rfl rfl ?_
        refine R.lss (b := true) rfl rfl (decide_eq_true (by omega)) ?_
        refine R.gT rfl rfl ?_
        refine R.move ?_
        refine R.gF rfl rfl rfl ?_
        refine R.gF rfl rfl rfl ?_
        refine R.gF rfl rfl rfl ?_
        refine R.gF rfl rfl rfl ?_
        refine R.gF rfl rfl rfl ?_
        refine R.gF rfl rfl rfl ?_
        refine R.gF rfl rfl rfl ?_
        refine R.gF rfl rfl rfl ?_
        refine R.gF rfl rfl rfl ?_
        refine R.gF rfl rfl rfl ?_
        refine R.gF rfl rfl rfl ?_
        refine R.gF rfl rfl rfl ?_
        refine R.gF rfl rfl rfl ?_
        refine R.gF rfl rfl rfl ?_
        refine R.gF rfl rfl rfl ?_
        refine R.gT rfl rfl ?_
        refine R.pickT rfl ?_
        refine R.pickT rfl ?_
        refine R.nil ?_
        refine E.condT rfl ?_
        refine E.regionP rfl ?_
        refine R.move ?_
        refine R.assign ?_
        refine R.nil ?_
        refine E.regionP rfl ?_
        refine R.move ?_
        refine R.addN (n := 1) rfl rfl (by omega) ?_
        refine R.assign ?_
        refine R.nil ?_
        exact ⟨xss.length - (i + 1), by omega, i + 1, i, rfl, by omega, by rw [othB_step hi1 hq hq2, hq3, if_pos (by show (-1 : Int) < _; omega)], hE, hB3, rfl, rfl, rfl, rfl, rfl, trivial⟩
      · have ho7 : o = (j : Int) := by rw [← hqo, e1]
        subst ho7
        have hxj := hx6 _ (List.getElem_mem hj)
        refine E.regionW (fun _ b => b < wr.heap.size) [] mixed rfl (by kernel_rfl) ?_
        intro w5 hx5 hh5
        replace hB3 := hB3.ext hx5
        replace hE := hE.ext hx5
        have hEs : Ext w5 w5 := Upd.refl _
        have hS0 := hx5.size
        have hSs : ∀ b, b < w5.heap.size → b < wr.heap.size := fun b hb => by rw [hh5] at hb; exact hb
        have hSa : ∀ b, b < w.heap.size → b < wr.heap.size := fun b hb => by have := hE.size; rw [hh5] at this; omega
        have hB3s := hB3
        refine R.move ?_
        refine R.move ?_
        refine R.neq (b := true) rfl rfl (by simp [hq]) ?_
        refine R.move ?_
        refine R.gT rfl rfl ?_
        refine R.fld fa54_0 rfl ?_
        refine R.gT rfl rfl ?_
        refine R.loadBE t22 hB3s hEs rfl rfl rfl hSs ?_
        refine R.gT rfl rfl ?_
        refine R.move ?_
        refine R.gT rfl rfl ?_
        refine R.ix Try.underlying22 t35 (by decide) hm.row rfl rfl (by omega) ?_
        refine R.gT rfl rfl ?_
        obtain ⟨u24, hu24, hr24⟩ := hm.get i (by omega)
        refine R.ldE t35 hm.row hE rfl hu24 rfl hSa ?_
        refine R.gT rfl rfl ?_
        refine R.len Try.underlying35 hr24 rfl ?_
        refine R.gT rfl rfl ?_
        refine R.fld fa54_1 rfl ?_
        refine R.gT rfl rfl ?_
        refine R.loadBE t3 hB3s hEs rfl rfl rfl hSs ?_
        refine R.gT rfl rfl ?_
        refine R.lss (b := true) rfl rfl (decide_eq_true (by omega)) ?_
        refine R.pickT rfl ?_
        refine R.move ?_
        refine R.gT rfl rfl ?_
        refine R.move ?_
        refine R.gT rfl rfl ?_
        refine R.lss (b := false) rfl rfl (decide_eq_false (by omega)) ?_
        refine R.gT rfl rfl ?_
        refine R.move ?_
        refine R.gT rfl rfl ?_
        refine R.fld fa54_0 rfl ?_
        refine R.gT rfl rfl ?_
        refine R.loadBE t22 hB3s hEs rfl rfl rfl hSs ?_
        refine R.gT rfl rfl ?_
        refine R.move ?_
        refine R.gT rfl rfl ?_
        refine R.ix Try.underlying22 t35 (by decide) hm.row rfl rfl (by omega) ?_
        refine R.gT rfl rfl ?_
        obtain ⟨u38, hu38, hr38⟩ := hm.get i (by omega)
        refine R.ldE t35 hm.row hE rfl hu38 rfl hSa ?_
        refine R.gT rfl rfl ?_
        refine R.move ?_
        refine R.gT rfl rfl ?_
        refine R.callE2 ent101 (rLeast _ (hr38.ext hE) (ho.ext hE) (by omega) (by omega)) rfl rfl (fun _ _ hb => Nat.lt_of_lt_of_le hb (Nat.le_trans hS0 hEs.size)) ?_
        rintro v40 w6 hx6 rfl
        replace hB3 := hB3.ext hx6
        replace hE := hE.ext hx6
        replace hEs := hEs.ext hx6
        refine R.gT rfl rfl ?_
        refine R.fld fa54_0 rfl ?_
        refine R.gT rfl rfl ?_
        refine R.loadBE t22 hB3s hEs rfl rfl rfl hSs ?_
        refine R.gT rfl rfl ?_
        refine R.move ?_
        refine R.gT rfl rfl ?_
        refine R.ix (m := j) Try.underlying22 t35 (by decide) hm.row rfl rfl hj ?_
        refine R.gT rfl rfl ?_
        obtain ⟨u45, hu45, hr45⟩ := hm.get j (by omega)
        refine R.ldE t35 hm.row hE rfl hu45 rfl hSa ?_
        refine R.gT rfl rfl ?_
        refine R.move ?_
        refine R.gT rfl rfl ?_
        refine R.callE2 ent101 (rLeast _ (hr45.ext hE) (ho.ext hE) (by omega) (by omega)) rfl rfl (fun _ _ hb => Nat.lt_of_lt_of_le hb (Nat.le_trans hS0 hEs.size)) ?_
        rintro v47 w7 hx7 rfl
        replace hB3 := hB3.ext hx7
        replace hE := hE.ext hx7
        replace hEs := hEs.ext hx7
        refine R.gT rfl rfl ?_
        refine R.gtr rfl rfl rfl ?_
        refine R.gT rfl rfl ?_
        refine R.pickF rfl ?_
        refine R.pickT rfl ?_
        refine R.nil ?_
        refine E.cond rfl (fun hc50 => ?_) (fun hc50 => ?_)
        · replace hc50 := dT hc50
          refine E.regionP rfl ?_
          refine R.move ?_
          refine R.assign ?_
          refine R.nil ?_
          refine E.regionP rfl ?_
          refine R.move ?_
          refine R.addN (n := 1) rfl rfl (by omega) ?_
          refine R.assign ?_
          refine R.nil ?_
          exact ⟨xss.length - (i + 1), by omega, i + 1, i, rfl, by omega, by rw [othB_step hi1 hq hq2, e2, if_pos (by omega)], hE, hB3, rfl, rfl, rfl, rfl, rfl, trivial⟩
        · replace hc50 := dF hc50
          refine E.skip ?_
          refine E.regionP rfl ?_
          refine R.move ?_
          refine R.addN (n := 1) rfl rfl (by omega) ?_
          refine R.assign ?_
          refine R.nil ?_
          exact ⟨xss.length - (i + 1), by omega, i + 1, j, rfl, by omega, by rw [othB_step hi1 hq hq2, e2, if_neg (by omega)]; exact hqo, hE, hB3, rfl, rfl, rfl, rfl, rfl, trivial⟩
    · replace hc13 := dF hc13
      refine E.exit ?_
      refine E.seq ?_
      refine E.regionP rfl ?_
      refine R.move ?_
      refine R.assign ?_
      refine R.nil ?_
      refine E.ret ?_
      obtain rfl : i = xss.length := by omega
      exact ret1 (.int .i64 o) rfl rfl ⟨_, rfl, hE, by rw [hqo]⟩
theorem told35 (w : World) {v : Value} {ss : List (Int × Int × Int)} (h : Steps w v ss) (hl : ss.length < 1000000000) :
    Calls Try.prog 50 #[v] w (Ret fun r w' => Ext w w' ∧ Sl w' 68 3 r ss.length (stepsC ss) ∧ Fresh w r) := by
  refine calls_E (args := [v]) 19 Try.func50 rfl rfl (by simp) ?_
  have hE : Ext w w := Upd.refl w
  refine E.seq ?_
  refine E.regionP rfl ?_
  refine R.assign ?_
  refine R.nil ?_
  refine E.seq ?_
  refine E.regionP rfl ?_
  refine R.assign ?_
  refine R.nil ?_
  refine E.seq ?_
  refine E.seq ?_
  refine E.regionP rfl ?_
  refine R.assign ?_
  refine R.nil ?_
  refine E.block ?_
  refine E.loop (fun n e wr => ∃ (i : Nat) (ov : Value), n = ss.length - i ∧ i ≤ ss.length ∧ Ext w wr ∧ Sl wr 68 3 ov i (stepsC (ss.take i)) ∧ Fresh w ov ∧ Has e [(0, v), (3, ov), (4, .int .i64 (i : Nat))]) (ss.length) ?_ ?_
  · exact ⟨0, _, rfl, Nat.zero_le _, hE, Sl.nil _ _ _, Fresh.nil _, rfl, rfl, rfl, trivial⟩
  · rintro n e wr ⟨i, ov, rfl, hi, hE, hW, hf, hH⟩
    obtain ⟨e, rfl⟩ := hH.ex
    clear hH
    refine E.seq ?_
    refine E.seq ?_
    refine E.regionP rfl ?_
    refine R.move ?_
    refine R.move ?_
    refine R.len Try.underlying78 h rfl ?_
    refine R.lss rfl rfl rfl ?_
    refine R.nil ?_
    refine E.cond rfl (fun hc8 => ?_) (fun hc8 => ?_)
    · replace hc8 := dT hc8
      have hi1 : i < ss.length := by omega
      have hmin : min i ss.length = i := by omega
      refine E.skip ?_
      refine E.seq ?_
      refine E.block ?_
      refine E.regionP rfl ?_
      refine R.move ?_
      refine R.move ?_
      refine R.move ?_
      refine R.ix Try.underlying78 t117 (by decide) h rfl rfl (by omega) ?_
      refine R.ldS t117 h hE (by omega) rfl rfl (fun _ _ => trivial) ?_
      refine R.buildSlice [.agg #[.int .i64 ss[i].1, .int .i64 ss[i].2.1, .int .i64 ss[i].2.2]] Try.underlying62 t68 rfl rfl (by simp [Value.cells]) (by simp) nofun ?_
      intro b16 w1 hb16 hx1 hB16 hS16
      replace hb16 := Nat.le_trans hE.size hb16
      replace hW := hW.ext hx1
      replace hE := hE.ext hx1
      refine R.append (m := 1) Try.underlying62 Try.underlying62 t68 (by decide) rfl hW hS16.row (by simp [cellsOf, Value.cells, Value.oneCell']) rfl rfl (by omega) (by omega) nofun ?_
      intro v17 w17 hU17 hS17 hd17
      have hf17 := Fresh.app' hE.size hf hd17
      replace hE := hE.app hU17 hf
      replace hW : Sl w17 68 3 v17 (i + 1) (stepsC (ss.take (i + 1))) := by
        rw [take_snoc (List.getElem?_eq_getElem hi1), stepsC_snoc]
        simpa [cellsOf, Value.cells] using hS17
      clear hS16 hS17 hd17
      refine R.assign ?_
      refine R.nil ?_
      refine E.regionP rfl ?_
      refine R.move ?_
      refine R.addN (n := 1) rfl rfl (by omega) ?_
      refine R.assign ?_
      refine R.nil ?_
      exact ⟨ss.length - (i + 1), by omega, i + 1, v17, rfl, by omega, hE, hW, hf17, rfl, rfl, rfl, trivial⟩
    · replace hc8 := dF hc8
      refine E.exit ?_
      refine E.seq ?_
      refine E.regionP rfl ?_
      refine R.move ?_
      refine R.assign ?_
      refine R.nil ?_
      refine E.ret ?_
      obtain rfl : i = ss.length := by omega
      rw [List.take_length] at hW
      exact ret1 ov rfl rfl ⟨_, rfl, hE, hW, hf⟩
def lowL (ord s : List Int) (k : Nat) : Nat := (s.take k).foldl (fun m b => min m (rankL ord b)) ord.length
theorem lowL_succ {ord s : List Int} {k : Nat} (h : k < s.length) : lowL ord s (k + 1) = min (lowL ord s k) (rankL ord s[k]) := by
  unfold lowL; rw [List.take_succ_eq_append_getElem h, List.foldl_append]; rfl
theorem wayR_low {ord s : List Int} {k : Nat} (h : k < s.length) : wayR ord (lowL ord s k) (s.drop k) = (if lowL ord s k < rankL ord s[k] then 1 else 0) + wayR ord (lowL ord s (k + 1)) (s.drop (k + 1)) := by
  rw [wayR_drop h, lowL_succ h]
  split
  · rw [Nat.min_eq_left (by omega)]
  · rw [Nat.min_eq_right (by omega)]; omega
set_option maxHeartbeats 1600000 in
theorem rInWay (w : World) {v vo : Value} {h : Int} {us : List Value} {xss : List (List Int)} {ord : List Int} (hm : Mat w v us xss) (ho : Ints w vo ord) (hl : xss.length ≤ 30) (hx : ∀ xs ∈ xss, xs.length ≤ 6) (hol : ord.length < 1000000) :
    Calls Try.prog 99 #[.agg #[v, .int .i64 h], vo] w (Ret fun r w' => Ext w w' ∧ ∃ l, SInts w' r l ∧ l.length = wayL ord xss) := by
  have hwl := wayL_le ord xss 6 hx
  refine calls_E (args := [.agg #[v, .int .i64 h], vo]) 69 Try.func99 rfl rfl (by simp) ?_
  have hE : Ext w w := Upd.refl w
  refine E.seq ?_
  refine E.regionP rfl ?_
  refine R.box rfl nofun ?_
  intro b2 w1 hb2 hx1 hB2
  replace hb2 := Nat.le_trans hE.size hb2
  replace hE := hE.ext hx1
  replace hB2 : Blk _ b2 54 #[v, .int .i64 h] := hB2
  refine R.assign ?_
  refine R.nil ?_
  refine E.seq ?_
  refine E.regionP rfl ?_
  refine R.assign ?_
  refine R.nil ?_
  refine E.seq ?_
  refine E.seq ?_
  refine E.regionP rfl ?_
  refine R.assign ?_
  refine R.nil ?_
  refine E.block ?_
  refine E.loop (fun n e wr => ∃ (i : Nat) (ov : Value) (l : List Int), n = xss.length - i ∧ i ≤ xss.length ∧ l.length + wayL ord (xss.drop i) = wayL ord xss ∧ Ext w wr ∧ Blk wr b2 54 #[v, .int .i64 h] ∧ SInts wr ov l ∧ Fresh w ov ∧ Has e [(1, vo), (2, .pointer (some ⟨b2, 0, none⟩)), (5, ov), (6, .int .i64 (i : Nat))]) (xss.length) ?_ ?_
  · exact ⟨0, _, [], rfl, Nat.zero_le _, by simp, hE, hB2, SInts.nil _, Fresh.nil _, rfl, rfl, rfl, rfl, trivial⟩
  · rintro n e wr ⟨i, ov, l, rfl, hi, hq, hE, hB2, hT, hf, hH⟩
    obtain ⟨e, rfl⟩ := hH.ex
    clear hH
    refine E.seq ?_
    refine E.seq ?_
    refine E.regionP rfl ?_
    refine R.move ?_
    refine R.fld fa54_0 rfl ?_
    refine R.loadB t22 hB2 rfl rfl rfl trivial ?_
    refine R.len Try.underlying22 hm.row rfl ?_
    refine R.lss rfl rfl rfl ?_
    refine R.nil ?_
    refine E.cond rfl (fun hc14 => ?_) (fun hc14 => ?_)
    · replace hc14 := dT hc14
      have hi1 : i < xss.length := by omega
      rw [wayL_drop hi1] at hq
      have hxi := hx _ (List.getElem_mem hi1)
      obtain ⟨u0, hu0, hr0⟩ := hm.get i hi1
      refine E.skip ?_
      refine E.seq ?_
      refine E.block ?_
      refine E.seq ?_
      refine E.regionP rfl ?_
      refine R.assign ?_
      refine R.nil ?_
      refine E.block ?_
      refine E.loop (fun n e wr => ∃ (k : Nat) (ov : Value) (l : List Int), n = xss[i].length - k ∧ k ≤ xss[i].length ∧ l.length + (wayR ord (lowL ord xss[i] k) (xss[i].drop k) + wayL ord (xss.drop (i + 1))) = wayL ord xss ∧ Ext w wr ∧ Blk wr b2 54 #[v, .int .i64 h] ∧ SInts wr ov l ∧ Fresh w ov ∧ Has e [(1, vo), (2, .pointer (some ⟨b2, 0, none⟩)), (5, ov), (6, .int .i64 (i : Nat)), (7, .int .i64 (k : Nat))]) (xss[i].length) ?_ ?_
      · exact ⟨0, ov, l, rfl, Nat.zero_le _, by simpa [lowL] using hq, hE, hB2, hT, hf, rfl, rfl, rfl, rfl, rfl, trivial⟩
      · rintro n e wr ⟨k, ov, l, rfl, hk, hq2, hE, hB2, hT, hf, hH⟩
        obtain ⟨e, rfl⟩ := hH.ex
        clear hH
        refine E.seq ?_
        refine E.seq ?_
        refine E.regionP rfl ?_
        refine R.move ?_
        refine R.fld fa54_0 rfl ?_
        refine R.loadB t22 hB2 rfl rfl rfl trivial ?_
        refine R.move ?_
        refine R.ix Try.underlying22 t35 (by decide) hm.row rfl rfl (by omega) ?_
        obtain ⟨u22, hu22, hr22⟩ := hm.get i (by omega)
        refine R.ld t35 (hm.row.ext hE) rfl hu22 rfl (fun _ _ => trivial) ?_
        refine R.len Try.underlying35 hr22 rfl ?_
        refine R.lss rfl rfl rfl ?_
        refine R.nil ?_
        refine E.cond rfl (fun hc24 => ?_) (fun hc24 => ?_)
        · replace hc24 := dT hc24
          have hk1 : k < xss[i].length := by omega
          rw [wayR_low hk1] at hq2
          refine E.skip ?_
          refine E.seq ?_
          refine E.block ?_
          refine E.seq ?_
          refine E.regionP rfl ?_
          refine R.assign ?_
          refine R.nil ?_
          refine E.seq ?_
          refine E.seq ?_
          refine E.regionP rfl ?_
          refine R.assign ?_
          refine R.nil ?_
          refine E.block ?_
          refine E.loop (fun n e wr => ∃ (q : Nat), n = k - q ∧ q ≤ k ∧ Ext w wr ∧ Blk wr b2 54 #[v, .int .i64 h] ∧ SInts wr ov l ∧ Has e [(1, vo), (2, .pointer (some ⟨b2, 0, none⟩)), (5, ov), (6, .int .i64 (i : Nat)), (7, .int .i64 (k : Nat)), (8, .bool (decide (lowL ord xss[i] q < rankL ord xss[i][k]))), (9, .int .i64 (q : Nat))]) (k) ?_ ?_
          · exact ⟨0, rfl, Nat.zero_le _, hE, hB2, hT, rfl, rfl, rfl, rfl, rfl, (by show Value.bool false = Value.bool (decide (lowL ord xss[i] 0 < _)); rw [decide_eq_false]; exact Nat.not_lt.2 (rankL_le _ _)), rfl, trivial⟩
          · rintro n e wr ⟨q, rfl, hqk, hE, hB2, hT, hH⟩
            obtain ⟨e, rfl⟩ := hH.ex
            clear hH
            refine E.seq ?_
            refine E.seq ?_
            refine E.regionP rfl ?_
            refine R.move ?_
            refine R.move ?_
            refine R.lss rfl rfl rfl ?_
            refine R.nil ?_
            refine E.cond rfl (fun hc29 => ?_) (fun hc29 => ?_)
            · replace hc29 := dT hc29
              have hn1 : q < xss[i].length := by omega
              refine E.skip ?_
              refine E.seq ?_
              refine E.block ?_
              rcases Decidable.em (lowL ord xss[i] q < rankL ord xss[i][k]) with hlo | hlo
              · refine E.regionW (fun _ b => b < wr.heap.size) [] mixed rfl (by kernel_rfl) ?_
                intro w2 hx2 hh2
                replace hT := hT.ext hx2
                replace hB2 := hB2.ext hx2
                replace hE := hE.ext hx2
                have hEs : Ext w2 w2 := Upd.refl _
                have hS0 := hx2.size
                have hSs : ∀ b, b < w2.heap.size → b < wr.heap.size := fun b hb => by rw [hh2] at hb; exact hb
                have hSa : ∀ b, b < w.heap.size → b < wr.heap.size := fun b hb => by have := hE.size; rw [hh2] at this; omega
                have hTs := hT
                have hB2s := hB2
                refine R.mv (.bool true) (by show Value.bool _ = _; simp [hlo]) ?_
                refine R.move ?_
                refine R.gF rfl rfl rfl ?_
                refine R.gF rfl rfl rfl ?_
                refine R.gF rfl rfl rfl ?_
                refine R.gF rfl rfl rfl ?_
                refine R.gF rfl rfl rfl ?_
                refine R.gF rfl rfl rfl ?_
                refine R.gF rfl rfl rfl ?_
                refine R.gF rfl rfl rfl ?_
                refine R.gF rfl rfl rfl ?_
                refine R.gF rfl rfl rfl ?_
                refine R.gF rfl rfl rfl ?_
                refine R.gF rfl rfl rfl ?_
                refine R.gF rfl rfl rfl ?_
                refine R.gF rfl rfl rfl ?_
                refine R.gF rfl rfl rfl ?_
                refine R.gF rfl rfl rfl ?_
                refine R.gF rfl rfl rfl ?_
                refine R.gF rfl rfl rfl ?_
                refine R.gF rfl rfl rfl ?_
                refine R.gF rfl rfl rfl ?_
                refine R.gF rfl rfl rfl ?_
                refine R.pickT rfl ?_
                refine R.assign ?_
                refine R.nil ?_
                refine E.regionP rfl ?_
                refine R.move ?_
                refine R.addN (n := 1) rfl rfl (by omega) ?_
                refine R.assign ?_
                refine R.nil ?_
                exact ⟨k - (q + 1), by omega, q + 1, rfl, by omega, hE, hB2, hT, rfl, rfl, rfl, rfl, rfl, (by show Value.bool true = _; rw [lowL_succ hn1]; simp; omega), rfl, trivial⟩
              · refine E.regionW (fun _ b => b < wr.heap.size) [] mixed rfl (by kernel_rfl) ?_
                intro w3 hx3 hh3
                replace hT := hT.ext hx3
                replace hB2 := hB2.ext hx3
                replace hE := hE.ext hx3
                have hEs : Ext w3 w3 := Upd.refl _
                have hS0 := hx3.size
                have hSs : ∀ b, b < w3.heap.size → b < wr.heap.size := fun b hb => by rw [hh3] at hb; exact hb
                have hSa : ∀ b, b < w.heap.size → b < wr.heap.size := fun b hb => by have := hE.size; rw [hh3] at this; omega
                have hTs := hT
                have hB2s := hB2
                refine R.mv (.bool false) (by show Value.bool _ = _; simp [hlo]) ?_
                refine R.move ?_
                refine R.gT rfl rfl ?_
                refine R.move ?_
                refine R.gT rfl rfl ?_
                refine R.fld fa54_0 rfl ?_
                refine R.gT rfl rfl ?_
                refine R.loadBE t22 hB2s hEs rfl rfl rfl hSs ?_
                refine R.gT rfl rfl ?_
                refine R.move ?_
                refine R.gT rfl rfl ?_
                refine R.ix Try.underlying22 t35 (by decide) hm.row rfl rfl (by omega) ?_
                refine R.gT rfl rfl ?_
                obtain ⟨u39, hu39, hr39⟩ := hm.get i (by omega)
                refine R.ldE t35 hm.row hE rfl hu39 rfl hSa ?_
                refine R.gT rfl rfl ?_
                refine R.move ?_
                refine R.gT rfl rfl ?_
                refine R.ix (m := q) Try.underlying35 t3 (by decide) hr39 rfl rfl hn1 ?_
                refine R.gT rfl rfl ?_
                refine R.ldE t3 hr39 hE rfl (int_at hn1) rfl hSa ?_
                refine R.gT rfl rfl ?_
                refine R.callE2 ent86 (rRank _ (b := xss[i][q]) (ho.ext hE) (by omega)) rfl rfl (fun _ _ hb => Nat.lt_of_lt_of_le hb (Nat.le_trans hS0 hEs.size)) ?_
                rintro v43 w4 hx4 rfl
                replace hT := hT.ext hx4
                replace hB2 := hB2.ext hx4
                replace hE := hE.ext hx4
                replace hEs := hEs.ext hx4
                refine R.gT rfl rfl ?_
                refine R.move ?_
                refine R.gT rfl rfl ?_
                refine R.fld fa54_0 rfl ?_
                refine R.gT rfl rfl ?_
                refine R.loadBE t22 hB2s hEs rfl rfl rfl hSs ?_
                refine R.gT rfl rfl ?_
                refine R.move ?_
                refine R.gT rfl rfl ?_
                refine R.ix Try.underlying22 t35 (by decide) hm.row rfl rfl (by omega) ?_
                refine R.gT rfl rfl ?_
                obtain ⟨u49, hu49, hr49⟩ := hm.get i (by omega)
                refine R.ldE t35 hm.row hE rfl hu49 rfl hSa ?_
                refine R.gT rfl rfl ?_
                refine R.move ?_
                refine R.gT rfl rfl ?_
                refine R.ix (m := k) Try.underlying35 t3 (by decide) hr49 rfl rfl hk1 ?_
                refine R.gT rfl rfl ?_
                refine R.ldE t3 hr49 hE rfl (int_at hk1) rfl hSa ?_
                refine R.gT rfl rfl ?_
                refine R.callE2 ent86 (rRank _ (b := xss[i][k]) (ho.ext hE) (by omega)) rfl rfl (fun _ _ hb => Nat.lt_of_lt_of_le hb (Nat.le_trans hS0 hEs.size)) ?_
                rintro v53 w5 hx5 rfl
                replace hT := hT.ext hx5
                replace hB2 := hB2.ext hx5
                replace hE := hE.ext hx5
                replace hEs := hEs.ext hx5
                refine R.gT rfl rfl ?_
                refine R.lss rfl rfl rfl ?_
                refine R.pickF rfl ?_
                refine R.assign ?_
                refine R.nil ?_
                refine E.regionP rfl ?_
                refine R.move ?_
                refine R.addN (n := 1) rfl rfl (by omega) ?_
                refine R.assign ?_
                refine R.nil ?_
                exact ⟨k - (q + 1), by omega, q + 1, rfl, by omega, hE, hB2, hT, rfl, rfl, rfl, rfl, rfl, (by show Value.bool (decide _) = _; rw [lowL_succ hn1]; congr 1; exact decide_eq_decide.2 (by omega)), rfl, trivial⟩
            · replace hc29 := dF hc29
              obtain rfl : q = k := by omega
              refine E.exit ?_
              refine E.seq ?_
              refine E.regionP rfl ?_
              refine R.move ?_
              refine R.nil ?_
              refine E.cond rfl (fun hc56 => ?_) (fun hc56 => ?_)
              · have hlo : lowL ord xss[i] q < rankL ord xss[i][q] := of_decide_eq_true hc56
                rw [if_pos hlo] at hq2
                refine E.regionP rfl ?_
                refine R.move ?_
                refine R.fld fa54_0 rfl ?_
                refine R.loadB t22 hB2 rfl rfl rfl trivial ?_
                refine R.move ?_
                refine R.ix Try.underlying22 t35 (by decide) hm.row rfl rfl (by omega) ?_
                obtain ⟨u62, hu62, hr62⟩ := hm.get i (by omega)
                refine R.ld t35 (hm.row.ext hE) rfl hu62 rfl (fun _ _ => trivial) ?_
                refine R.move ?_
                refine R.ix Try.underlying35 t3 (by decide) hr62 rfl rfl (by omega) ?_
                refine R.ld t3 (hr62.ext hE) rfl (int_at hk1) rfl (fun _ _ => trivial) ?_
                refine R.buildSlice [.int .i64 xss[i][q]] Try.underlying35 t3 rfl rfl (by simp [Value.cells]) (by simp) nofun ?_
                intro b66 w6 hb66 hx6 hB66 hS66
                replace hb66 := Nat.le_trans hE.size hb66
                replace hT := hT.ext hx6
                replace hB2 := hB2.ext hx6
                replace hE := hE.ext hx6
                refine R.append (m := 1) Try.underlying35 Try.underlying35 t3 (by decide) rfl hT hS66.row (by simp [cellsOf, Value.cells, Value.oneCell']) rfl rfl (by omega) (by omega) nofun ?_
                intro v67 w67 hU67 hS67 hd67
                have hf67 := Fresh.app' hE.size hf hd67
                replace hB2 := hB2.upS hU67 hT (by decide)
                replace hE := hE.app hU67 hf
                replace hT : SInts w67 v67 (l ++ [xss[i][q]]) := SInts.app (ys := [xss[i][q]]) (m := 1) (by simpa [cellsOf, Value.cells, ints] using hS67) rfl
                clear hS66 hS67 hd67
                refine R.assign ?_
                refine R.nil ?_
                refine E.regionP rfl ?_
                refine R.move ?_
                refine R.addN (n := 1) rfl rfl (by omega) ?_
                refine R.assign ?_
                refine R.nil ?_
                exact ⟨xss[i].length - (q + 1), by omega, q + 1, v67, l ++ [xss[i][q]], rfl, by omega, by simp; omega, hE, hB2, hT, hf67, rfl, rfl, rfl, rfl, rfl, trivial⟩
              · have hlo : ¬ lowL ord xss[i] q < rankL ord xss[i][q] := of_decide_eq_false hc56
                rw [if_neg hlo] at hq2
                refine E.skip ?_
                refine E.regionP rfl ?_
                refine R.move ?_
                refine R.addN (n := 1) rfl rfl (by omega) ?_
                refine R.assign ?_
                refine R.nil ?_
                exact ⟨xss[i].length - (q + 1), by omega, q + 1, ov, l, rfl, by omega, by omega, hE, hB2, hT, hf, rfl, rfl, rfl, rfl, rfl, trivial⟩
        · replace hc24 := dF hc24
          refine E.exit ?_
          refine E.regionP rfl ?_
          refine R.move ?_
          refine R.addN (n := 1) rfl rfl (by omega) ?_
          refine R.assign ?_
          refine R.nil ?_
          obtain rfl : k = xss[i].length := by omega
          rw [List.drop_length] at hq2
          exact ⟨xss.length - (i + 1), by omega, i + 1, ov, l, rfl, by omega, by simp only [wayR] at hq2; omega, hE, hB2, hT, hf, rfl, rfl, rfl, rfl, trivial⟩
    · replace hc14 := dF hc14
      refine E.exit ?_
      refine E.seq ?_
      refine E.regionP rfl ?_
      refine R.move ?_
      refine R.assign ?_
      refine R.nil ?_
      refine E.ret ?_
      obtain rfl : i = xss.length := by omega
      rw [List.drop_length] at hq
      exact ret1 ov rfl rfl ⟨_, rfl, hE, l, hT, by simpa [wayL] using hq⟩
theorem rBound (w : World) {v vo : Value} {h : Int} {us : List Value} {xss : List (List Int)} {ord : List Int} (hm : Mat w v us xss) (ho : Ints w vo ord) (hl : xss.length < 100000) (hx : ∀ xs ∈ xss, xs.length ≤ 10) (hol : ord.length < 1000000) :
    Calls Try.prog 84 #[.agg #[v, .int .i64 h], vo] w (Ret fun r w' => Ext w w' ∧ r = .tuple #[.int .i64 ((boundR xss h ord).1 : Nat), .int .i64 (boundR xss h ord).2]) := by
  cases hb : beginB xss h ord
  rotate_left
  · obtain ⟨hRP, hOP⟩ := beginB_right hb
    refine calls_E (args := [.agg #[v, .int .i64 h], vo]) 14 Try.func84 rfl rfl (by simp) ?_
    have hE : Ext w w := Upd.refl w
    refine E.seq ?_
    refine E.regionP rfl ?_
    refine R.box rfl nofun ?_
    intro b2 w1 hb2 hx1 hB2
    replace hb2 := Nat.le_trans hE.size hb2
    replace hE := hE.ext hx1
    replace hB2 : Blk _ b2 54 #[v, .int .i64 h] := hB2
    refine R.assign ?_
    refine R.assign ?_
    refine R.nil ?_
    refine E.seq ?_
    refine E.seq ?_
    refine E.regionP rfl ?_
    refine R.loadA t54 hB2 rfl rfl rfl trivial ?_
    refine R.move ?_
    refine R.callE2 ent88 (rRightO _ (hm.ext hE) (ho.ext hE) hl hx (by omega)) rfl rfl nofun ?_
    rintro v8 w2 hx2 rfl
    rw [hb]
    replace hB2 := hB2.ext hx2
    replace hE := hE.ext hx2
    refine R.not rfl ?_
    refine R.nil ?_
    refine E.condF rfl ?_
    refine E.skip ?_
    refine E.seq ?_
    refine E.regionP rfl ?_
    refine R.loadA t54 hB2 rfl rfl rfl trivial ?_
    refine R.move ?_
    refine R.callE2 ent99 (rInWay _ (hm.ext hE) (ho.ext hE) hRP.2.2.2.1 (sum_lengths hRP) hol) rfl rfl nofun ?_
    rintro v12 w3 hx3 ⟨l, hS12, hl12⟩
    replace hB2 := hB2.ext hx3
    replace hE := hE.ext hx3
    refine R.len Try.underlying35 hS12.row rfl ?_
    refine R.assign ?_
    refine R.assign ?_
    refine R.nil ?_
    refine E.ret ?_
    exact ret2 (.int .i64 (l.length : Nat)) (.int .i64 0) rfl rfl rfl ⟨_, rfl, hE, by rw [hl12]; simp [boundR, hb]⟩
  · refine calls_E (args := [.agg #[v, .int .i64 h], vo]) 14 Try.func84 rfl rfl (by simp) ?_
    have hE : Ext w w := Upd.refl w
    refine E.seq ?_
    refine E.regionP rfl ?_
    refine R.box rfl nofun ?_
    intro b2 w1 hb2 hx1 hB2
    replace hb2 := Nat.le_trans hE.size hb2
    replace hE := hE.ext hx1
    replace hB2 : Blk _ b2 54 #[v, .int .i64 h] := hB2
    refine R.assign ?_
    refine R.assign ?_
    refine R.nil ?_
    refine E.seq ?_
    refine E.seq ?_
    refine E.regionP rfl ?_
    refine R.loadA t54 hB2 rfl rfl rfl trivial ?_
    refine R.move ?_
    refine R.callE2 ent88 (rRightO _ (hm.ext hE) (ho.ext hE) hl hx (by omega)) rfl rfl nofun ?_
    rintro v8 w2 hx2 rfl
    rw [hb]
    replace hB2 := hB2.ext hx2
    replace hE := hE.ext hx2
    refine R.not rfl ?_
    refine R.nil ?_
    refine E.condT rfl ?_
    refine E.seq ?_
    refine E.regionP rfl ?_
    refine R.assign ?_
    refine R.assign ?_
    refine R.nil ?_
    refine E.ret ?_
    exact ret2 (.int .i64 0) (.int .i64 2) rfl rfl rfl ⟨_, rfl, hE, by simp [boundR, hb]⟩
end Go.Proofs.Ytfdmndkoiheebaa
