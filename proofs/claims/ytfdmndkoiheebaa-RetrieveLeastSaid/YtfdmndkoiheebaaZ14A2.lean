import Derived.Test.YtfdmndkoiheebaaZ14Base4
namespace Go.Proofs.Ytfdmndkoiheebaa
open Go Go.RowKit
theorem sameInts (w : World) {v1 v2 : Value} {xs ys : List Int} (h1 : Ints w v1 xs) (h2 : Ints w v2 ys) (hl1 : xs.length < 1000000000) (hl2 : ys.length < 1000000000) :
    Calls Try.prog 56 #[v1, v2] w (Ret fun v w' => Ext w w' ∧ v = .bool (decide (xs = ys))) := by
  refine calls_E (args := [v1, v2]) 26 Try.func56 rfl rfl (by simp) ?_
  have hE : Ext w w := Upd.refl w
  refine E.seq ?_
  refine E.regionP rfl ?_
  refine R.assign ?_
  refine R.nil ?_
  refine E.seq ?_
  refine E.seq ?_
  refine E.regionP rfl ?_
  refine R.move ?_
  refine R.len Try.underlying35 h1 rfl ?_
  refine R.move ?_
  refine R.len Try.underlying35 h2 rfl ?_
  refine R.neq rfl rfl rfl ?_
  refine R.nil ?_
  refine E.cond rfl (fun hc10 => ?_) (fun hc10 => ?_)
  · replace hc10 := nT hc10
    refine E.seq ?_
    refine E.regionP rfl ?_
    refine R.assign ?_
    refine R.nil ?_
    refine E.ret ?_
    refine ret1 (.bool false) rfl rfl ⟨_, rfl, hE, ?_⟩
    have : xs ≠ ys := fun h => hc10 (by rw [h])
    simp [this]
  · replace hc10 := nF hc10
    refine E.skip ?_
    refine E.seq ?_
    refine E.seq ?_
    refine E.regionP rfl ?_
    refine R.assign ?_
    refine R.nil ?_
    refine E.block ?_
    refine E.loop (fun n e wr => ∃ k : Nat, n = xs.length - k ∧ k ≤ xs.length ∧ xs.take k = ys.take k ∧ Ext w wr ∧ Has e [(0, v1), (1, v2), (5, .int .i64 k)]) (xs.length) ?_ ?_
    · exact ⟨0, rfl, Nat.zero_le _, rfl, hE, rfl, rfl, rfl, trivial⟩
    · rintro n e wr ⟨k, rfl, hk, htk, hE, hH⟩
      obtain ⟨e, rfl⟩ := hH.ex
      clear hH
      refine E.seq ?_
      refine E.seq ?_
      refine E.regionP rfl ?_
      refine R.move ?_
      refine R.move ?_
      refine R.len Try.underlying35 h1 rfl ?_
      refine R.lss rfl rfl rfl ?_
      refine R.nil ?_
      refine E.cond rfl (fun hc14 => ?_) (fun hc14 => ?_)
      · replace hc14 := dT hc14
        refine E.skip ?_
        refine E.seq ?_
        refine E.block ?_
        refine E.seq ?_
        refine E.regionW allS [] mixed rfl (by kernel_rfl) ?_
        intro w1 hx1 hh1
        replace hE := hE.ext hx1
        refine R.move ?_
        refine R.move ?_
        refine R.ix Try.underlying35 t3 (by decide) h1 rfl rfl (by omega) ?_
        refine R.ld t3 (h1.ext hE) rfl (int_at (by omega)) rfl (fun _ _ => trivial) ?_
        refine R.move ?_
        refine R.move ?_
        refine R.ix Try.underlying35 t3 (by decide) h2 rfl rfl (by omega) ?_
        refine R.ld t3 (h2.ext hE) rfl (int_at (by omega)) rfl (fun _ _ => trivial) ?_
        refine R.neq rfl rfl rfl ?_
        refine R.nil ?_
        refine E.cond rfl (fun hc25 => ?_) (fun hc25 => ?_)
        · replace hc25 := nT hc25
          refine E.seq ?_
          refine E.regionP rfl ?_
          refine R.assign ?_
          refine R.nil ?_
          refine E.ret ?_
          refine ret1 (.bool false) rfl rfl ⟨_, rfl, hE, ?_⟩
          have : xs ≠ ys := fun h => hc25 (by subst h; rfl)
          simp [this]
        · replace hc25 := nF hc25
          refine E.skip ?_
          refine E.regionP rfl ?_
          refine R.move ?_
          refine R.addN (n := 1) rfl rfl (by omega) ?_
          refine R.assign ?_
          refine R.nil ?_
          refine ⟨xs.length - (k + 1), by omega, k + 1, rfl, by omega, ?_, hE, rfl, rfl, rfl, trivial⟩
          rw [List.take_succ_eq_append_getElem (by omega), List.take_succ_eq_append_getElem (by omega), htk, hc25]
      · replace hc14 := dF hc14
        refine E.exit ?_
        refine E.seq ?_
        refine E.regionP rfl ?_
        refine R.assign ?_
        refine R.nil ?_
        refine E.ret ?_
        refine ret1 (.bool true) rfl rfl ⟨_, rfl, hE, ?_⟩
        obtain rfl : k = xs.length := by omega
        have hlen : xs.length = ys.length := by omega
        rw [List.take_length, hlen, List.take_length] at htk
        simp [htk]
end Go.Proofs.Ytfdmndkoiheebaa

namespace Go.Proofs.Ytfdmndkoiheebaa
open Go Go.RowKit
theorem sameWaters (w : World) {v1 v2 : Value} {us1 us2 : List Value} {xss yss : List (List Int)} (h1 : Mat w v1 us1 xss) (h2 : Mat w v2 us2 yss) (hl1 : xss.length < 1000000000) (hl2 : yss.length < 1000000000)
    (hx : ∀ xs ∈ xss, xs.length < 1000000000) (hy : ∀ ys ∈ yss, ys.length < 1000000000) :
    Calls Try.prog 65 #[v1, v2] w (Ret fun v w' => Ext w w' ∧ v = .bool (decide (xss = yss))) := by
  refine calls_E (args := [v1, v2]) 27 Try.func65 rfl rfl (by simp) ?_
  have hE : Ext w w := Upd.refl w
  refine E.seq ?_
  refine E.regionP rfl ?_
  refine R.assign ?_
  refine R.nil ?_
  refine E.seq ?_
  refine E.seq ?_
  refine E.regionP rfl ?_
  refine R.move ?_
  refine R.len Try.underlying22 h1.row rfl ?_
  refine R.move ?_
  refine R.len Try.underlying22 h2.row rfl ?_
  refine R.neq rfl rfl rfl ?_
  refine R.nil ?_
  refine E.cond rfl (fun hc10 => ?_) (fun hc10 => ?_)
  · replace hc10 := nT hc10
    refine E.seq ?_
    refine E.regionP rfl ?_
    refine R.assign ?_
    refine R.nil ?_
    refine E.ret ?_
    refine ret1 (.bool false) rfl rfl ⟨_, rfl, hE, ?_⟩
    have : xss ≠ yss := fun h => hc10 (by rw [h])
    simp [this]
  · replace hc10 := nF hc10
    refine E.skip ?_
    refine E.seq ?_
    refine E.seq ?_
    refine E.regionP rfl ?_
    refine R.assign ?_
    refine R.nil ?_
    refine E.block ?_
    refine E.loop (fun n e wr => ∃ k : Nat, n = xss.length - k ∧ k ≤ xss.length ∧ xss.take k = yss.take k ∧ Ext w wr ∧ Has e [(0, v1), (1, v2), (5, .int .i64 k)]) (xss.length) ?_ ?_
    · exact ⟨0, rfl, Nat.zero_le _, rfl, hE, rfl, rfl, rfl, trivial⟩
    · rintro n e wr ⟨k, rfl, hk, htk, hE, hH⟩
      obtain ⟨e, rfl⟩ := hH.ex
      clear hH
      refine E.seq ?_
      refine E.seq ?_
      refine E.regionP rfl ?_
      refine R.move ?_
      refine R.move ?_
      refine R.len Try.underlying22 h1.row rfl ?_
      refine R.lss rfl rfl rfl ?_
      refine R.nil ?_
      refine E.cond rfl (fun hc14 => ?_) (fun hc14 => ?_)
      · replace hc14 := dT hc14
        refine E.skip ?_
        refine E.seq ?_
        refine E.block ?_
        refine E.seq ?_
        refine E.regionW (fun _ b => b < wr.heap.size) [] mixed rfl (by kernel_rfl) ?_
        intro w1 hx1 hh1
        replace hE := hE.ext hx1
        have hEs : Ext w1 w1 := Upd.refl _
        have hS0 := hx1.size
        have hSs : ∀ b, b < w1.heap.size → b < wr.heap.size := fun b hb => by rw [hh1] at hb; exact hb
        have hSa : ∀ b, b < w.heap.size → b < wr.heap.size := fun b hb => by have := hE.size; rw [hh1] at this; omega
        refine R.move ?_
        refine R.move ?_
        refine R.ix Try.underlying22 t35 (by decide) h1.row rfl rfl (by omega) ?_
        obtain ⟨u20, hu20, hr20⟩ := h1.get k (by omega)
        refine R.ldE t35 h1.row hE rfl hu20 rfl hSa ?_
        refine R.move ?_
        refine R.move ?_
        refine R.ix Try.underlying22 t35 (by decide) h2.row rfl rfl (by omega) ?_
        obtain ⟨u24, hu24, hr24⟩ := h2.get k (by omega)
        refine R.ldE t35 h2.row hE rfl hu24 rfl hSa ?_
        refine R.callE2 ent56 (sameInts _ (hr20.ext hE) (hr24.ext hE) (hx _ (List.getElem_mem _)) (hy _ (List.getElem_mem _))) rfl rfl (fun _ _ hb => Nat.lt_of_lt_of_le hb (Nat.le_trans hS0 hEs.size)) ?_
        rintro v25 w2 hx2 rfl
        replace hE := hE.ext hx2
        replace hEs := hEs.ext hx2
        refine R.not rfl ?_
        refine R.nil ?_
        refine E.cond rfl (fun hc26 => ?_) (fun hc26 => ?_)
        · refine E.seq ?_
          refine E.regionP rfl ?_
          refine R.assign ?_
          refine R.nil ?_
          refine E.ret ?_
          refine ret1 (.bool false) rfl rfl ⟨_, rfl, hE, ?_⟩
          have : xss ≠ yss := fun h => (nT hc26) (by subst h; rfl)
          simp [this]
        · refine E.skip ?_
          refine E.regionP rfl ?_
          refine R.move ?_
          refine R.addN (n := 1) rfl rfl (by omega) ?_
          refine R.assign ?_
          refine R.nil ?_
          refine ⟨xss.length - (k + 1), by omega, k + 1, rfl, by omega, ?_, hE, rfl, rfl, rfl, trivial⟩
          rw [List.take_succ_eq_append_getElem (by omega), List.take_succ_eq_append_getElem (by omega), htk, nF hc26]
      · replace hc14 := dF hc14
        refine E.exit ?_
        refine E.seq ?_
        refine E.regionP rfl ?_
        refine R.assign ?_
        refine R.nil ?_
        refine E.ret ?_
        refine ret1 (.bool true) rfl rfl ⟨_, rfl, hE, ?_⟩
        obtain rfl : k = xss.length := by omega
        have hlen : xss.length = yss.length := by omega
        rw [List.take_length, hlen, List.take_length] at htk
        simp [htk]
theorem same (w : World) {v1 v2 : Value} {k1 k2 : Int} {us1 us2 : List Value} {xss yss : List (List Int)} (h1 : Mat w v1 us1 xss) (h2 : Mat w v2 us2 yss) (hl1 : xss.length < 1000000000) (hl2 : yss.length < 1000000000)
    (hx : ∀ xs ∈ xss, xs.length < 1000000000) (hy : ∀ ys ∈ yss, ys.length < 1000000000) :
    Calls Try.prog 28 #[.agg #[v1, .int .i64 k1], .agg #[v2, .int .i64 k2]] w (Ret fun v w' => Ext w w' ∧ v = .bool (decide (k1 = k2 ∧ xss = yss))) := by
  by_cases hk : k1 = k2
  · refine calls_E (args := [.agg #[v1, .int .i64 k1], .agg #[v2, .int .i64 k2]]) 17 Try.func28 rfl rfl (by simp) ?_
    have hE : Ext w w := Upd.refl w
    refine E.seq ?_
    refine E.regionP rfl ?_
    refine R.box rfl nofun ?_
    intro b2 w1 hb2 hx1 hB2
    replace hb2 := Nat.le_trans hE.size hb2
    replace hE := hE.ext hx1
    replace hB2 : Blk _ b2 24 #[_, _] := hB2
    refine R.box rfl nofun ?_
    intro b3 w2 hb3 hx2 hB3
    have ne2_3 : b2 ≠ b3 := by have := hB2.lt; omega
    replace hb3 := Nat.le_trans hE.size hb3
    replace hB2 := hB2.ext hx2
    replace hE := hE.ext hx2
    replace hB3 : Blk _ b3 24 #[_, _] := hB3
    refine R.assign ?_
    refine R.nil ?_
    refine E.seq ?_
    refine E.regionP rfl ?_
    refine R.fld fa24_1 rfl ?_
    refine R.loadB t3 hB2 rfl rfl rfl trivial ?_
    refine R.fld fa24_1 rfl ?_
    refine R.loadB t3 hB3 rfl rfl rfl trivial ?_
    refine R.eql (b := true) rfl rfl (decide_eq_true hk) ?_
    refine R.move ?_
    refine R.gT rfl rfl ?_
    refine R.fld fa24_0 rfl ?_
    refine R.gT rfl rfl ?_
    refine R.loadB t22 hB2 rfl rfl rfl trivial ?_
    refine R.gT rfl rfl ?_
    refine R.fld fa24_0 rfl ?_
    refine R.gT rfl rfl ?_
    refine R.loadB t22 hB3 rfl rfl rfl trivial ?_
    refine R.gT rfl rfl ?_
    refine R.callE2 ent65 (sameWaters _ (h1.ext hE) (h2.ext hE) hl1 hl2 hx hy) rfl rfl nofun ?_
    rintro v15 w3 hx3 rfl
    replace hB2 := hB2.ext hx3
    replace hB3 := hB3.ext hx3
    replace hE := hE.ext hx3
    refine R.pickT rfl ?_
    refine R.assign ?_
    refine R.nil ?_
    refine E.ret ?_
    refine ret1 (.bool (decide (xss = yss))) rfl rfl ⟨_, rfl, hE, ?_⟩
    simp [hk]
  · refine calls_E (args := [.agg #[v1, .int .i64 k1], .agg #[v2, .int .i64 k2]]) 17 Try.func28 rfl rfl (by simp) ?_
    have hE : Ext w w := Upd.refl w
    refine E.seq ?_
    refine E.regionP rfl ?_
    refine R.box rfl nofun ?_
    intro b2 w1 hb2 hx1 hB2
    replace hb2 := Nat.le_trans hE.size hb2
    replace hE := hE.ext hx1
    replace hB2 : Blk _ b2 24 #[_, _] := hB2
    refine R.box rfl nofun ?_
    intro b3 w2 hb3 hx2 hB3
    have ne2_3 : b2 ≠ b3 := by have := hB2.lt; omega
    replace hb3 := Nat.le_trans hE.size hb3
    replace hB2 := hB2.ext hx2
    replace hE := hE.ext hx2
    replace hB3 : Blk _ b3 24 #[_, _] := hB3
    refine R.assign ?_
    refine R.nil ?_
    refine E.seq ?_
    refine E.regionP rfl ?_
    refine R.fld fa24_1 rfl ?_
    refine R.loadB t3 hB2 rfl rfl rfl trivial ?_
    refine R.fld fa24_1 rfl ?_
    refine R.loadB t3 hB3 rfl rfl rfl trivial ?_
    refine R.eql (b := false) rfl rfl (decide_eq_false hk) ?_
    refine R.move ?_
    refine R.gF rfl rfl rfl ?_
    refine R.gF rfl rfl rfl ?_
    refine R.gF rfl rfl rfl ?_
    refine R.gF rfl rfl rfl ?_
    refine R.gF rfl rfl rfl ?_
    refine R.pickF rfl ?_
    refine R.assign ?_
    refine R.nil ?_
    refine E.ret ?_
    refine ret1 (.bool false) rfl rfl ⟨_, rfl, hE, ?_⟩
    simp [hk]
theorem few (w : World) {v : Value} {k : Int} {us : List Value} {xss : List (List Int)} (h : Mat w v us xss) (hl : xss.length ≤ 9223372036854775807) :
    Calls Try.prog 17 #[.agg #[v, .int .i64 k]] w (Ret fun r w' => Ext w w' ∧ r = .bool (decide ((∀ xs ∈ xss, xs.length ≤ 10) ∧ xss.length ≤ 32))) := by
  refine calls_E (args := [.agg #[v, .int .i64 k]]) 22 Try.func17 rfl rfl (by simp) ?_
  have hE : Ext w w := Upd.refl w
  refine E.seq ?_
  refine E.regionP rfl ?_
  refine R.box rfl nofun ?_
  intro b1 w1 hb1 hx1 hB1
  replace hb1 := Nat.le_trans hE.size hb1
  replace hE := hE.ext hx1
  replace hB1 : Blk _ b1 24 #[_, _] := hB1
  refine R.assign ?_
  refine R.nil ?_
  refine E.seq ?_
  refine E.seq ?_
  refine E.regionP rfl ?_
  refine R.assign ?_
  refine R.nil ?_
  refine E.block ?_
  refine E.loop (fun n e wr => ∃ i : Nat, n = xss.length - i ∧ i ≤ xss.length ∧ (∀ xs ∈ xss.take i, xs.length ≤ 10) ∧ Ext w wr ∧ Blk wr b1 24 #[v, .int .i64 k] ∧ Has e [(1, .pointer (some ⟨b1, 0, none⟩)), (3, .int .i64 i)]) (xss.length) ?_ ?_
  · exact ⟨0, rfl, Nat.zero_le _, by simp, hE, hB1, rfl, rfl, trivial⟩
  · rintro n e wr ⟨i, rfl, hi, hall, hE, hB1, hH⟩
    obtain ⟨e, rfl⟩ := hH.ex
    clear hH
    refine E.seq ?_
    refine E.seq ?_
    refine E.regionP rfl ?_
    refine R.move ?_
    refine R.fld fa24_0 rfl ?_
    refine R.loadB t22 hB1 rfl rfl rfl trivial ?_
    refine R.len Try.underlying22 h.row rfl ?_
    refine R.lss rfl rfl rfl ?_
    refine R.nil ?_
    refine E.cond rfl (fun hc8 => ?_) (fun hc8 => ?_)
    · replace hc8 := dT hc8
      refine E.skip ?_
      refine E.seq ?_
      refine E.block ?_
      refine E.seq ?_
      refine E.regionP rfl ?_
      refine R.fld fa24_0 rfl ?_
      refine R.loadB t22 hB1 rfl rfl rfl trivial ?_
      refine R.move ?_
      refine R.ix Try.underlying22 t35 (by decide) h.row rfl rfl (by omega) ?_
      obtain ⟨u15, hu15, hr15⟩ := h.get i (by omega)
      refine R.ld t35 (h.row.ext hE) rfl hu15 rfl (fun _ _ => trivial) ?_
      refine R.len Try.underlying35 hr15 rfl ?_
      refine R.gtr rfl rfl rfl ?_
      refine R.nil ?_
      refine E.cond rfl (fun hc17 => ?_) (fun hc17 => ?_)
      · replace hc17 := dT hc17
        refine E.seq ?_
        refine E.regionP rfl ?_
        refine R.assign ?_
        refine R.nil ?_
        refine E.ret ?_
        refine ret1 (.bool false) rfl rfl ⟨_, rfl, hE, ?_⟩
        have : ¬ ((∀ xs ∈ xss, xs.length ≤ 10) ∧ xss.length ≤ 32) := fun hh => by
          have := hh.1 xss[i] (List.getElem_mem _)
          omega
        simp [this]
      · replace hc17 := dF hc17
        refine E.skip ?_
        refine E.regionP rfl ?_
        refine R.move ?_
        refine R.addN (n := 1) rfl rfl (by omega) ?_
        refine R.assign ?_
        refine R.nil ?_
        refine ⟨xss.length - (i + 1), by omega, i + 1, rfl, by omega, ?_, hE, hB1, rfl, rfl, trivial⟩
        intro xs hxs
        rw [List.take_succ_eq_append_getElem (by omega)] at hxs
        rcases List.mem_append.1 hxs with hxs | hxs
        · exact hall xs hxs
        · simp at hxs; subst hxs; omega
    · replace hc8 := dF hc8
      refine E.exit ?_
      refine E.seq ?_
      refine E.regionP rfl ?_
      refine R.fld fa24_0 rfl ?_
      refine R.loadB t22 hB1 rfl rfl rfl trivial ?_
      refine R.len Try.underlying22 h.row rfl ?_
      refine R.leq rfl rfl rfl ?_
      refine R.assign ?_
      refine R.nil ?_
      refine E.ret ?_
      refine ret1 (.bool (decide ((xss.length : Int) ≤ 32))) rfl rfl ⟨_, rfl, hE, ?_⟩
      obtain rfl : i = xss.length := by omega
      rw [List.take_length] at hall
      have e1 : ((∀ xs ∈ xss, xs.length ≤ 10) ∧ xss.length ≤ 32) ↔ ((xss.length : Int) ≤ 32) := ⟨fun hh => by omega, fun hh => ⟨hall, by omega⟩⟩
      simp only [e1]
end Go.Proofs.Ytfdmndkoiheebaa
