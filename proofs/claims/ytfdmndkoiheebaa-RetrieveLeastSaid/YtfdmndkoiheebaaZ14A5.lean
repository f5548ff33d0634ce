import Derived.Test.YtfdmndkoiheebaaZ14A3
namespace Go.Proofs.Ytfdmndkoiheebaa
open Go Go.RowKit
theorem Upd.app {X : Nat → Prop} {w0 w w' : World} {v : Value} (h : Upd X w0 w) (u : Upd (fun b => vblk v = some b) w w') (hf : Fresh w0 v) : Upd X w0 w' := h.trans u fun c hc hx => by
  have := hf c hx
  omega
theorem Fresh.app {X : Nat → Prop} {w0 w w' : World} {v v' : Value} {n : Nat} (hE : Upd X w0 w) (hf : Fresh w0 v) (hd : (vblk v' = vblk v ∧ n ≤ vcap v ∧ vcap v' = vcap v) ∨ (∃ b, vblk v' = some b ∧ w.heap.size ≤ b ∧ Ext w w')) : Fresh w0 v' := by
  intro b hb
  rcases hd with ⟨h1, _⟩ | ⟨b', h1, h2, _⟩
  · exact hf b (h1 ▸ hb)
  · rw [h1] at hb
    have := hE.size
    simp at hb
    omega
def marks (i : Nat) : List Int := (List.range i).map (markL 1)
theorem marks_succ (i : Nat) : marks (i + 1) = marks i ++ [markL 1 i] := by simp [marks, List.range_succ]
theorem marks_length (i : Nat) : (marks i).length = i := by simp [marks]
def Lent (w : World) (v : Value) (xs : List Int) : Prop := ∃ v0, SInts w v0 (xs ++ marks 12) ∧ v = cut 1 v0 0 xs.length
theorem Lent.ext {w w' : World} {v : Value} {xs : List Int} (h : Lent w v xs) (u : Ext w w') : Lent w' v xs := by
  obtain ⟨v0, h, e⟩ := h; exact ⟨v0, h.ext u, e⟩
theorem Lent.sl {w : World} {v : Value} {xs : List Int} (h : Lent w v xs) : SInts w v xs := by
  obtain ⟨v0, h, rfl⟩ := h
  have := h.cut (l := 0) (r := xs.length) (Nat.zero_le _) (by simp)
  simpa [ints] using this
theorem Lent.ints {w : World} {v : Value} {xs : List Int} (h : Lent w v xs) : Ints w v xs := h.sl.row
theorem lentInts (w : World) {v : Value} {xs : List Int} (h : Ints w v xs) (hl : xs.length < 1000000) :
    Calls Try.prog 81 #[v] w (Ret fun r w' => Ext w w' ∧ Lent w' r xs ∧ Fresh w r) := by
  refine calls_E (args := [v]) 25 Try.func81 rfl rfl (by simp) ?_
  have hE : Ext w w := Upd.refl w
  refine E.seq ?_
  refine E.regionP rfl ?_
  refine R.assign ?_
  refine R.nil ?_
  refine E.seq ?_
  refine E.regionP rfl ?_
  refine R.move ?_
  refine R.len Try.underlying35 h rfl ?_
  refine R.addN (n := 12) rfl rfl (by omega) ?_
  refine R.make (n := 0) (c := xs.length + 12) Try.underlying35 t3 rfl rfl rfl (by omega) (by omega) (by omega) nofun ?_
  intro b8 w8 hb8 hx8 hB8 hS8
  replace hE := hE.ext hx8
  refine R.assign ?_
  refine R.nil ?_
  refine E.seq ?_
  refine E.regionP rfl ?_
  refine R.move ?_
  refine R.move ?_
  refine R.append Try.underlying35 Try.underlying35 t3 (by decide) rfl hS8 (h.ext hE) ints_one rfl rfl (by simp; omega) (by simp; omega) nofun ?_
  intro v11 w11 hU11 hS11 hd11
  have hf8 : Fresh w (.slice (some ⟨b8, 0, none⟩) 0 (xs.length + 12)) := fun b hb => by simp [vblk] at hb; omega
  have hf11 := Fresh.app hE hf8 hd11
  replace hE := hE.app hU11 hf8
  simp only [List.replicate_zero, List.nil_append, Nat.zero_add] at hS11
  refine R.assign ?_
  refine R.nil ?_
  refine E.seq ?_
  refine E.seq ?_
  refine E.regionP rfl ?_
  refine R.assign ?_
  refine R.nil ?_
  refine E.block ?_
  refine E.loop (fun n e wr => ∃ i : Nat, ∃ vv : Value, n = 12 - i ∧ i ≤ 12 ∧ Ext w wr ∧ Sl wr 3 1 vv (xs.length + i) (ints (xs ++ marks i)) ∧ Fresh w vv ∧ Has e [(0, v), (3, vv), (4, .int .i64 i)]) (12) ?_ ?_
  · exact ⟨0, v11, rfl, Nat.zero_le _, hE, by simpa [marks] using hS11, hf11, rfl, rfl, rfl, trivial⟩
  · rintro n e wr ⟨i, vv, rfl, hi, hE, hS, hf, hH⟩
    obtain ⟨e, rfl⟩ := hH.ex
    clear hH
    refine E.seq ?_
    refine E.seq ?_
    refine E.regionP rfl ?_
    refine R.move ?_
    refine R.lss rfl rfl rfl ?_
    refine R.nil ?_
    refine E.cond rfl (fun hc13 => ?_) (fun hc13 => ?_)
    · replace hc13 := dT hc13
      refine E.skip ?_
      refine E.seq ?_
      refine E.block ?_
      refine E.regionP rfl ?_
      refine R.move ?_
      refine R.move ?_
      refine R.callE2 ent97 (mark_ _ (k := 1) (by decide) (by omega)) rfl rfl nofun ?_
      rintro v18 w1 hx1 rfl
      replace hS := hS.ext hx1
      replace hE := hE.ext hx1
      refine R.buildSlice [.int .i64 (markL 1 i)] Try.underlying35 t3 rfl rfl (by simp [Value.cells]) (by simp) nofun ?_
      intro b19 w2 hb19 hx2 hB19 hS19
      replace hb19 := Nat.le_trans hE.size hb19
      replace hS := hS.ext hx2
      replace hE := hE.ext hx2
      refine R.append Try.underlying35 Try.underlying35 t3 (by decide) rfl hS hS19.row (by simp [cellsOf, Value.cells, Value.oneCell']) rfl rfl (by simp; omega) (by simp; omega) nofun ?_
      intro v20 w20 hU20 hS20 hd20
      have hf20 := Fresh.app hE hf hd20
      replace hE := hE.app hU20 hf
      refine R.assign ?_
      refine R.nil ?_
      refine E.regionP rfl ?_
      refine R.move ?_
      refine R.addN (n := 1) rfl rfl (by omega) ?_
      refine R.assign ?_
      refine R.nil ?_
      refine ⟨12 - (i + 1), by omega, i + 1, v20, rfl, by omega, hE, ?_, hf20, rfl, rfl, rfl, trivial⟩
      rw [marks_succ]
      simpa [cellsOf, Value.cells, Nat.add_assoc] using hS20
    · replace hc13 := dF hc13
      refine E.exit ?_
      refine E.seq ?_
      refine E.regionP rfl ?_
      refine R.move ?_
      refine R.move ?_
      refine R.len Try.underlying35 h rfl ?_
      obtain ⟨a0, c0, hv0, hc0, _⟩ := id hS
      refine R.slc (l := 0) (r := xs.length) Try.underlying35 t3 rfl hv0 rfl ⟨_, rfl⟩ (Nat.zero_le _) (by omega) ?_
      refine R.assign ?_
      refine R.nil ?_
      refine E.ret ?_
      refine ret1 (cut 1 vv 0 xs.length) rfl rfl ⟨_, rfl, hE, ⟨vv, ?_, rfl⟩, fun b hb => hf b (vblk_cut hb)⟩
      obtain rfl : i = 12 := by omega
      show Sl _ 3 1 vv (xs ++ marks 12).length _
      rw [List.length_append, marks_length]
      exact hS
theorem Sl.upS {w w' : World} {ty ty' : TypeId} {k k' : Nat} {v x : Value} {n m : Nat} {cs ds : List Value} (h : Sl w ty k v n cs) (u : Upd (fun b => vblk x = some b) w w') (hx : Sl w ty' k' x m ds) (hne : ty ≠ ty') : Sl w' ty k v n cs := by
  obtain ⟨a, cap, rfl, hc, hl, h⟩ := h
  refine ⟨a, cap, rfl, hc, hl, ?_⟩
  rcases h with h | ⟨b, off, cur, rfl, hb, h⟩
  · exact .inl h
  · refine .inr ⟨b, off, cur, rfl, hb.up u (fun e => ?_), h⟩
    obtain ⟨a', cap', rfl, _, _, h'⟩ := hx
    rcases h' with ⟨rfl, _⟩ | ⟨b', off', cur', rfl, hb', _⟩
    · simp [vblk] at e
    · simp [vblk] at e; subst e; exact hne (hb.inj hb').2
theorem Lent.upS {w w' : World} {ty' : TypeId} {k' : Nat} {v x : Value} {m : Nat} {xs : List Int} {ds : List Value} (h : Lent w v xs) (u : Upd (fun b => vblk x = some b) w w') (hx : Sl w ty' k' x m ds) (hne : 3 ≠ ty') : Lent w' v xs := by
  obtain ⟨v0, h, e⟩ := h; exact ⟨v0, h.upS u hx hne, e⟩
def LentRows (w : World) (us : List Value) (xss : List (List Int)) : Prop := us.length = xss.length ∧ ∀ i (h : i < xss.length), ∃ u, us[i]? = some u ∧ Lent w u xss[i]
def MarkRows (w : World) (ms : List Value) (k : Nat) : Prop := ms.length = k ∧ ∀ i, i < k → ∃ u, ms[i]? = some u ∧ SInts w u [markL 1 i]
theorem LentRows.ext {w w' : World} {us : List Value} {xss : List (List Int)} (h : LentRows w us xss) (u : Ext w w') : LentRows w' us xss := ⟨h.1, fun i hi => let ⟨x, a, b⟩ := h.2 i hi; ⟨x, a, b.ext u⟩⟩
theorem MarkRows.ext {w w' : World} {ms : List Value} {k : Nat} (h : MarkRows w ms k) (u : Ext w w') : MarkRows w' ms k := ⟨h.1, fun i hi => let ⟨x, a, b⟩ := h.2 i hi; ⟨x, a, b.ext u⟩⟩
theorem LentRows.upS {w w' : World} {x : Value} {m : Nat} {ds : List Value} {us : List Value} {xss : List (List Int)} (h : LentRows w us xss) (u : Upd (fun b => vblk x = some b) w w') (hx : Sl w 35 1 x m ds) : LentRows w' us xss := ⟨h.1, fun i hi => let ⟨y, a, b⟩ := h.2 i hi; ⟨y, a, b.upS u hx (by decide)⟩⟩
theorem MarkRows.upS {w w' : World} {x : Value} {m : Nat} {ds : List Value} {ms : List Value} {k : Nat} (h : MarkRows w ms k) (u : Upd (fun b => vblk x = some b) w w') (hx : Sl w 35 1 x m ds) : MarkRows w' ms k := ⟨h.1, fun i hi => let ⟨y, a, b⟩ := h.2 i hi; ⟨y, a, b.upS u hx (by decide)⟩⟩
theorem LentRows.snoc {w : World} {us : List Value} {xss : List (List Int)} {k : Nat} (hk : k < xss.length) (h : LentRows w us (xss.take k)) {u : Value} (hu : Lent w u xss[k]) : LentRows w (us ++ [u]) (xss.take (k + 1)) := by
  obtain ⟨h1, h2⟩ := h
  simp only [List.length_take] at h1 h2
  refine ⟨by simp; omega, fun i hi => ?_⟩
  simp only [List.length_take] at hi
  by_cases hik : i < k
  · obtain ⟨x, a, b⟩ := h2 i (by omega)
    refine ⟨x, by rw [List.getElem?_append_left (by omega)]; exact a, ?_⟩
    simpa using b
  · obtain rfl : i = k := by omega
    exact ⟨u, by rw [List.getElem?_append_right (by omega)]; simp [h1, Nat.min_eq_left (Nat.le_of_lt hk)], by simpa using hu⟩
theorem MarkRows.snoc {w : World} {ms : List Value} {k : Nat} (h : MarkRows w ms k) {u : Value} (hu : SInts w u [markL 1 k]) : MarkRows w (ms ++ [u]) (k + 1) := by
  obtain ⟨h1, h2⟩ := h
  refine ⟨by simp; omega, fun i hi => ?_⟩
  by_cases hik : i < k
  · obtain ⟨x, a, b⟩ := h2 i hik
    exact ⟨x, by rw [List.getElem?_append_left (by omega)]; exact a, b⟩
  · obtain rfl : i = k := by omega
    exact ⟨u, by rw [List.getElem?_append_right (by omega)]; simp [h1], hu⟩
structure LentM (w : World) (v : Value) (xss : List (List Int)) : Prop where
  ex : ∃ v0 us ms, Sl w 35 1 v0 (xss.length + 12) (us ++ ms) ∧ v = cut 1 v0 0 xss.length ∧ LentRows w us xss ∧ MarkRows w ms 12
theorem LentM.ext {w w' : World} {v : Value} {xss : List (List Int)} (h : LentM w v xss) (u : Ext w w') : LentM w' v xss := by
  obtain ⟨v0, us, ms, h1, h2, h3, h4⟩ := h; exact ⟨v0, us, ms, h1.ext u, h2, h3.ext u, h4.ext u⟩
theorem LentM.one {w : World} {v : Value} {xss : List (List Int)} (h : LentM w v xss) : v.oneCell' = true := by
  obtain ⟨v0, us, ms, h1, rfl, _⟩ := h
  obtain ⟨a, c, rfl, _⟩ := h1
  rfl
theorem LentM.upT {w w' : World} {v : Value} {xss : List (List Int)} {b : Nat} {ty : TypeId} {cs : Array Value} (h : LentM w v xss) (u : Upd (Ytfdmndkoiheebaa.one b) w w') (hb : Blk w b ty cs) (hne : 35 ≠ ty ∧ 3 ≠ ty) : LentM w' v xss := by
  obtain ⟨v0, us, ms, h1, h2, h3, h4⟩ := h
  exact ⟨v0, us, ms, h1.upT u hb hne.1, h2, ⟨h3.1, fun i hi => let ⟨x, a, y, c, d⟩ := h3.2 i hi; ⟨x, a, y, c.upT u hb hne.2, d⟩⟩, ⟨h4.1, fun i hi => let ⟨x, a, c⟩ := h4.2 i hi; ⟨x, a, c.upT u hb hne.2⟩⟩⟩
theorem LentM.mat {w : World} {v : Value} {xss : List (List Int)} (h : LentM w v xss) : ∃ us, Mat w v us xss := by
  obtain ⟨v0, us, ms, h1, rfl, h3, h4⟩ := h
  have h5 := h1.row.cut (l := 0) (r := xss.length) (Nat.zero_le _) (by omega)
  have h6 := h3.1
  refine ⟨us, ⟨?_, fun i hi => let ⟨x, a, b⟩ := h3.2 i hi; ⟨x, a, b.ints⟩⟩⟩
  simpa [← h6] using h5
end Go.Proofs.Ytfdmndkoiheebaa

namespace Go.Proofs.Ytfdmndkoiheebaa
open Go Go.RowKit
theorem lentWaters (w : World) {v : Value} {us : List Value} {xss : List (List Int)} (h : Mat w v us xss) (hl : xss.length < 1000000) (hx : ∀ xs ∈ xss, xs.length < 1000000) :
    Calls Try.prog 66 #[v] w (Ret fun r w' => Ext w w' ∧ LentM w' r xss ∧ Fresh w r) := by
  refine calls_E (args := [v]) 39 Try.func66 rfl rfl (by simp) ?_
  have hE : Ext w w := Upd.refl w
  refine E.seq ?_
  refine E.regionP rfl ?_
  refine R.assign ?_
  refine R.nil ?_
  refine E.seq ?_
  refine E.regionP rfl ?_
  refine R.move ?_
  refine R.len Try.underlying22 h.row rfl ?_
  refine R.addN (n := 12) rfl rfl (by omega) ?_
  refine R.make (n := 0) (c := xss.length + 12) Try.underlying22 t35 rfl rfl rfl (by omega) (by omega) (by omega) nofun ?_
  intro b10 w10 hb10 hx10 hB10 hS10
  replace hE := hE.ext hx10
  have hf10 : Fresh w (.slice (some ⟨b10, 0, none⟩) 0 (xss.length + 12)) := fun b hb => by simp [vblk] at hb; omega
  refine R.assign ?_
  refine R.nil ?_
  refine E.seq ?_
  refine E.seq ?_
  refine E.regionP rfl ?_
  refine R.assign ?_
  refine R.nil ?_
  refine E.block ?_
  refine E.loop (fun n e wr => ∃ k : Nat, ∃ vv : Value, ∃ ws : List Value, n = xss.length - k ∧ k ≤ xss.length ∧ Ext w wr ∧ Sl wr 35 1 vv k ws ∧ Fresh w vv ∧ LentRows wr ws (xss.take k) ∧ Has e [(0, v), (3, vv), (4, .int .i64 k)]) (xss.length) ?_ ?_
  · exact ⟨0, _, [], rfl, Nat.zero_le _, hE, hS10, hf10, ⟨by simp, fun i hi => by simp at hi⟩, rfl, rfl, rfl, trivial⟩
  · rintro n e wr ⟨k, vv, ws, rfl, hk, hE, hS, hf, hR, hH⟩
    obtain ⟨e, rfl⟩ := hH.ex
    clear hH
    refine E.seq ?_
    refine E.seq ?_
    refine E.regionP rfl ?_
    refine R.move ?_
    refine R.move ?_
    refine R.len Try.underlying22 h.row rfl ?_
    refine R.lss rfl rfl rfl ?_
    refine R.nil ?_
    refine E.cond rfl (fun hc14 => ?_) (fun hc14 => ?_)
    · replace hc14 := dT hc14
      refine E.skip ?_
      refine E.seq ?_
      refine E.block ?_
      refine E.seq ?_
      refine E.regionP rfl ?_
      refine R.move ?_
      refine R.move ?_
      refine R.ix Try.underlying22 t35 (by decide) h.row rfl rfl (by omega) ?_
      obtain ⟨u20, hu20, hr20⟩ := h.get k (by omega)
      refine R.ld t35 (h.row.ext hE) rfl hu20 rfl (fun _ _ => trivial) ?_
      refine R.callE1 ent81 (lentInts _ (hr20.ext hE) (hx _ (List.getElem_mem _))) rfl nofun ?_
      rintro v21 w1 hx1 ⟨hL21, hf21⟩
      replace hS := hS.ext hx1
      replace hR := hR.ext hx1
      replace hE := hE.ext hx1
      refine R.assign ?_
      refine R.nil ?_
      refine E.regionP rfl ?_
      refine R.move ?_
      refine R.move ?_
      refine R.buildSlice [v21] Try.underlying22 t35 rfl rfl (by simp [cells_one hL21.ints.one]) (by simp) nofun ?_
      intro b24 w2 hb24 hx2 hB24 hS24
      replace hb24 := Nat.le_trans hE.size hb24
      replace hS := hS.ext hx2
      replace hR := hR.ext hx2
      replace hL21 := hL21.ext hx2
      replace hE := hE.ext hx2
      refine R.append Try.underlying22 Try.underlying22 t35 (by decide) rfl hS hS24.row (by simp [cellsOf, cells_one hL21.ints.one, hL21.ints.one]) rfl rfl (by simp; omega) (by simp; omega) nofun ?_
      intro v25 w25 hU25 hS25 hd25
      have hf25 := Fresh.app hE hf hd25
      replace hE := hE.app hU25 hf
      replace hR := hR.upS hU25 hS
      replace hL21 := hL21.upS hU25 hS (by decide)
      refine R.assign ?_
      refine R.nil ?_
      refine E.regionP rfl ?_
      refine R.move ?_
      refine R.addN (n := 1) rfl rfl (by omega) ?_
      refine R.assign ?_
      refine R.nil ?_
      refine ⟨xss.length - (k + 1), by omega, k + 1, v25, ws ++ [v21], rfl, by omega, hE, ?_, hf25, hR.snoc (by omega) hL21, rfl, rfl, rfl, trivial⟩
      simpa [cellsOf, cells_one hL21.ints.one] using hS25
    · replace hc14 := dF hc14
      refine E.exit ?_
      refine E.seq ?_
      refine E.seq ?_
      refine E.regionP rfl ?_
      refine R.assign ?_
      refine R.nil ?_
      refine E.block ?_
      refine E.loop (fun n e wr => ∃ j : Nat, ∃ vv : Value, ∃ ms : List Value, n = 12 - j ∧ j ≤ 12 ∧ Ext w wr ∧ Sl wr 35 1 vv (xss.length + j) (ws ++ ms) ∧ Fresh w vv ∧ LentRows wr ws xss ∧ MarkRows wr ms j ∧ Has e [(0, v), (3, vv), (6, .int .i64 j)]) (12) ?_ ?_
      · obtain rfl : k = xss.length := by omega
        rw [List.take_length] at hR
        exact ⟨0, vv, [], rfl, Nat.zero_le _, hE, by simpa using hS, hf, hR, ⟨rfl, fun i hi => by omega⟩, rfl, rfl, rfl, trivial⟩
      · rintro n e wr ⟨j, vv, ms, rfl, hj, hE, hS, hf, hR, hM, hH⟩
        obtain ⟨e, rfl⟩ := hH.ex
        clear hH
        refine E.seq ?_
        refine E.seq ?_
        refine E.regionP rfl ?_
        refine R.move ?_
        refine R.lss rfl rfl rfl ?_
        refine R.nil ?_
        refine E.cond rfl (fun hc27 => ?_) (fun hc27 => ?_)
        · replace hc27 := dT hc27
          refine E.skip ?_
          refine E.seq ?_
          refine E.block ?_
          refine E.regionP rfl ?_
          refine R.move ?_
          refine R.move ?_
          refine R.callE2 ent91 (markWater_ _ (k := 1) (by decide) (by omega)) rfl rfl nofun ?_
          rintro v32 w3 hx3 ⟨hS32, hf32⟩
          replace hS := hS.ext hx3
          replace hR := hR.ext hx3
          replace hM := hM.ext hx3
          replace hE := hE.ext hx3
          refine R.buildSlice [v32] Try.underlying22 t35 rfl rfl (by simp [cells_one hS32.row.one]) (by simp) nofun ?_
          intro b33 w4 hb33 hx4 hB33 hS33
          replace hb33 := Nat.le_trans hE.size hb33
          replace hS := hS.ext hx4
          replace hR := hR.ext hx4
          replace hM := hM.ext hx4
          replace hS32 := hS32.ext hx4
          replace hE := hE.ext hx4
          refine R.append Try.underlying22 Try.underlying22 t35 (by decide) rfl hS hS33.row (by simp [cellsOf, cells_one hS32.row.one, hS32.row.one]) rfl rfl (by simp; omega) (by simp; omega) nofun ?_
          intro v34 w34 hU34 hS34 hd34
          have hf34 := Fresh.app hE hf hd34
          replace hE := hE.app hU34 hf
          replace hR := hR.upS hU34 hS
          replace hM := hM.upS hU34 hS
          replace hS32 := hS32.upS hU34 hS (by decide)
          refine R.assign ?_
          refine R.nil ?_
          refine E.regionP rfl ?_
          refine R.move ?_
          refine R.addN (n := 1) rfl rfl (by omega) ?_
          refine R.assign ?_
          refine R.nil ?_
          refine ⟨12 - (j + 1), by omega, j + 1, v34, ms ++ [v32], rfl, by omega, hE, ?_, hf34, hR, hM.snoc hS32, rfl, rfl, rfl, trivial⟩
          simpa [cellsOf, cells_one hS32.row.one, Nat.add_assoc] using hS34
        · replace hc27 := dF hc27
          refine E.exit ?_
          refine E.seq ?_
          refine E.regionP rfl ?_
          refine R.move ?_
          refine R.move ?_
          refine R.len Try.underlying22 h.row rfl ?_
          obtain ⟨a0, c0, hv0, hc0, _⟩ := id hS
          refine R.slc (l := 0) (r := xss.length) Try.underlying22 t35 rfl hv0 rfl ⟨_, rfl⟩ (Nat.zero_le _) (by omega) ?_
          refine R.assign ?_
          refine R.nil ?_
          refine E.ret ?_
          obtain rfl : j = 12 := by omega
          exact ret1 (cut 1 vv 0 xss.length) rfl rfl ⟨_, rfl, hE, ⟨vv, ws, ms, hS, rfl, hR, hM⟩, fun b hb => hf b (vblk_cut hb)⟩
end Go.Proofs.Ytfdmndkoiheebaa
