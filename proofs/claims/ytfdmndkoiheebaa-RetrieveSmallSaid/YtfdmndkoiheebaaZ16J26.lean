import Derived.Test.YtfdmndkoiheebaaZ16J25
namespace Go.Proofs.Ytfdmndkoiheebaa
open Go Go.RowKit
theorem Sl.sub {w : World} {v : Value} {xs : List Int} (h : Sl w 3 1 v xs.length (ints xs)) {l r : Nat} (hl : l ≤ r) (hr : r ≤ xs.length) : SInts w (Ytfdmndkoiheebaa.cut 1 v l r) ((xs.drop l).take (r - l)) := by
  have h1 := h.cut hl hr
  show Sl w 3 1 _ ((xs.drop l).take (r - l)).length _
  have e : ((xs.drop l).take (r - l)).length = r - l := by simp; omega
  rw [e]
  simpa [ints, List.map_take, List.map_drop] using h1
theorem nil_one : (Value.slice none 0 0).oneCell' = true := rfl
theorem sz1 {vs : List Value} (h : ∀ v ∈ vs, v.oneCell' = true) : ∀ v ∈ vs, v.cells.size = 1 := fun v hv => by rw [cells_one (h v hv)]; rfl
theorem cellsOf_one : ∀ {vs : List Value}, (∀ v ∈ vs, v.oneCell' = true) → cellsOf vs = vs
  | [], _ => rfl
  | v :: vs, h => by
    have h1 := cellsOf_one (vs := vs) (fun u hu => h u (List.mem_cons_of_mem _ hu))
    have h2 := cells_one (h v List.mem_cons_self)
    simp only [cellsOf, List.flatMap_cons] at h1 ⊢
    rw [h1, h2]; rfl
def Rows2 (w : World) : List Value → List (List Int) → Prop
  | [], [] => True
  | u :: us, xs :: xss => SInts w u xs ∧ Rows2 w us xss
  | _, _ => False
theorem Rows2.get {w : World} : ∀ {us : List Value} {xss : List (List Int)}, Rows2 w us xss → ∀ i (h : i < xss.length), ∃ u, us[i]? = some u ∧ SInts w u xss[i]
  | [], [], _, i, h => by simp at h
  | u :: us, xs :: xss, h, 0, _ => ⟨u, rfl, h.1⟩
  | u :: us, xs :: xss, h, i + 1, hi => by
    obtain ⟨u', h1, h2⟩ := Rows2.get h.2 i (by simpa using hi)
    exact ⟨u', by simpa using h1, by simpa using h2⟩
  | [], _ :: _, h, _, _ => h.elim
  | _ :: _, [], h, _, _ => h.elim
theorem mo_of {w : World} {v : Value} {us cs : List Value} {xss : List (List Int)} (h : Sl w 35 1 v xss.length cs) (hc : cs = us) (hr : Rows2 w us xss) : MO w v us xss := by
  subst hc
  exact ⟨h, fun i hi => hr.get i hi⟩
theorem sep_app {w w' : World} {v v' u : Value} {n k : Nat} {ty : TypeId} {m : Nat} {cs : List Value} (hs : ∀ b, vblk v = some b → vblk u ≠ some b) (hu : Sl w ty k u m cs) (hd : (vblk v' = vblk v ∧ n ≤ vcap v ∧ vcap v' = vcap v) ∨ (∃ b, vblk v' = some b ∧ w.heap.size ≤ b ∧ Ext w w')) : ∀ b, vblk v' = some b → vblk u ≠ some b := by
  intro b hb hb2
  rcases hd with ⟨e, _⟩ | ⟨b', e, h1, _⟩
  · exact hs b (e ▸ hb) hb2
  · rw [e] at hb
    obtain rfl : b' = b := by simpa using hb
    have := hu.lt _ hb2
    omega
theorem fit1 {xss : List (List Int)} {l : List Nat} (h : xss.map List.length = l) (h1 : l.length ≤ 32) (h2 : ∀ n ∈ l, n ≤ 10) : Fit xss := by
  subst h
  exact ⟨by simpa using h1, fun xs hx => h2 _ (List.mem_map.2 ⟨xs, hx, rfl⟩)⟩
set_option maxHeartbeats 3200000 in
theorem limits35 (w : World) : Calls Try.prog 51 #[] w (Ret fun r w' => Ext w w' ∧ r = .bool true) := by
  refine calls_E (args := []) 110 Try.func51 rfl rfl (by simp) ?_
  have hE : Ext w w := Upd.refl w
  refine E.seq ?_
  refine E.regionP rfl ?_
  refine R.assign ?_
  refine R.nil ?_
  refine E.seq ?_
  refine E.seq ?_
  refine E.regionP rfl ?_
  refine R.assign ?_
  refine R.nil ?_
  refine E.block ?_
  refine E.loop (fun n e wr => ∃ (n0 : Nat), n = 9 - n0 ∧ n0 ≤ 9 ∧ 4 ≤ n0 ∧ Ext w wr ∧ Has e [(1, .int .i64 (n0 : Nat))]) (9 - 4) ?_ ?_
  · exact ⟨4, rfl, by omega, by omega, hE, rfl, trivial⟩
  · rintro n e wr ⟨n0, rfl, hn0, hn4, hE, hH⟩
    obtain ⟨e, rfl⟩ := hH.ex
    clear hH
    refine E.seq ?_
    refine E.seq ?_
    refine E.regionP rfl ?_
    refine R.move ?_
    refine R.lss rfl rfl rfl ?_
    refine R.nil ?_
    refine E.cond rfl (fun hc12 => ?_) (fun hc12 => ?_)
    · replace hc12 := dT hc12
      have hn9 : n0 < 9 := by omega
      refine E.skip ?_
      refine E.seq ?_
      refine E.block ?_
      refine E.seq ?_
      refine E.regionP rfl ?_
      refine R.assign ?_
      refine R.assign ?_
      refine R.nil ?_
      refine E.seq ?_
      refine E.seq ?_
      refine E.regionP rfl ?_
      refine R.assign ?_
      refine R.nil ?_
      refine E.block ?_
      refine E.loop (fun n e wr => ∃ (q : Nat) (v2 v3 : Value) (xs os : List Int), n = n0 - q ∧ q ≤ n0 ∧ xs.length = q ∧ os.length = q ∧ Ext w wr ∧ SInts wr v2 xs ∧ SInts wr v3 os ∧ Fresh w v2 ∧ Fresh w v3 ∧ (∀ b, vblk v2 = some b → vblk v3 ≠ some b) ∧ Has e [(1, .int .i64 (n0 : Nat)), (2, v2), (3, v3), (4, .int .i64 ((q + 1 : Nat) : Int))]) (n0) ?_ ?_
      · exact ⟨0, _, _, [], [], rfl, Nat.zero_le _, rfl, rfl, hE, SInts.nil _, SInts.nil _, Fresh.nil _, Fresh.nil _, fun b e => by simp [vblk] at e, rfl, rfl, rfl, rfl, trivial⟩
      · rintro n e wr ⟨q, v2, v3, xs, os, rfl, hq, hxl, hol, hE, hX, hO, hfx, hfo, hsep, hH⟩
        obtain ⟨e, rfl⟩ := hH.ex
        clear hH
        refine E.seq ?_
        refine E.seq ?_
        refine E.regionP rfl ?_
        refine R.move ?_
        refine R.move ?_
        refine R.leq rfl rfl rfl ?_
        refine R.nil ?_
        refine E.cond rfl (fun hc17 => ?_) (fun hc17 => ?_)
        · replace hc17 := dT hc17
          have hq1 : q + 1 ≤ n0 := by omega
          refine E.skip ?_
          refine E.seq ?_
          refine E.block ?_
          refine E.regionP rfl ?_
          refine R.move ?_
          refine R.move ?_
          refine R.buildSlice [.int .i64 ((q + 1 : Nat) : Int)] Try.underlying35 t3 rfl rfl (by simp [Value.cells]) (by simp) nofun ?_
          intro b22 w1 hb22 hx1 hB22 hS22
          replace hb22 := Nat.le_trans hE.size hb22
          replace hX := hX.ext hx1
          replace hO := hO.ext hx1
          replace hE := hE.ext hx1
          refine R.append (m := 1) Try.underlying35 Try.underlying35 t3 (by decide) rfl hX hS22.row (by simp [cellsOf, Value.cells, Value.oneCell']) rfl rfl (by omega) (by omega) nofun ?_
          intro v23 w23 hU23 hS23 hd23
          have hf23 := Fresh.app' hE.size hfx hd23
          have hsep0 := hsep
          replace hsep := sep_app hsep hO hd23
          replace hO := hO.up hU23 (fun b e e' => hsep0 b e' e)
          replace hE := hE.app hU23 hfx
          replace hX : SInts w23 v23 (xs ++ [((q + 1 : Nat) : Int)]) := SInts.app (ys := [((q + 1 : Nat) : Int)]) (m := 1) (by simpa [cellsOf, Value.cells, ints] using hS23) rfl
          replace hfx := hf23
          clear hS22 hS23 hd23 hf23 hsep0
          refine R.move ?_
          refine R.move ?_
          refine R.addN (m := n0) (n := 1) rfl rfl (by omega) ?_
          refine R.move ?_
          refine R.subN (m := n0 + 1) (n := q + 1) rfl rfl (by omega) (by omega) ?_
          refine R.buildSlice [.int .i64 ((n0 + 1 - (q + 1) : Nat) : Int)] Try.underlying35 t3 rfl rfl (by simp [Value.cells]) (by simp) nofun ?_
          intro b29 w2 hb29 hx2 hB29 hS29
          replace hb29 := Nat.le_trans hE.size hb29
          replace hX := hX.ext hx2
          replace hO := hO.ext hx2
          replace hE := hE.ext hx2
          refine R.append (m := 1) Try.underlying35 Try.underlying35 t3 (by decide) rfl hO hS29.row (by simp [cellsOf, Value.cells, Value.oneCell']) rfl rfl (by omega) (by omega) nofun ?_
          intro v30 w30 hU30 hS30 hd30
          have hf30 := Fresh.app' hE.size hfo hd30
          have hsep0 : ∀ b, vblk v3 = some b → vblk v23 ≠ some b := fun b e e2 => hsep b e2 e
          replace hsep : ∀ b, vblk v23 = some b → vblk v30 ≠ some b := fun b e e2 => sep_app hsep0 hX hd30 b e2 e
          replace hX := hX.up hU30 (fun b e e' => hsep0 b e' e)
          replace hE := hE.app hU30 hfo
          replace hO : SInts w30 v30 (os ++ [((n0 + 1 - (q + 1) : Nat) : Int)]) := SInts.app (ys := [((n0 + 1 - (q + 1) : Nat) : Int)]) (m := 1) (by simpa [cellsOf, Value.cells, ints] using hS30) rfl
          replace hfo := hf30
          clear hS29 hS30 hd30 hf30 hsep0
          refine R.assign ?_
          refine R.assign ?_
          refine R.nil ?_
          refine E.regionP rfl ?_
          refine R.move ?_
          refine R.addN (m := q + 1) (n := 1) rfl rfl (by omega) ?_
          refine R.assign ?_
          refine R.nil ?_
          exact ⟨n0 - (q + 1), by omega, q + 1, v23, v30, xs ++ [((q + 1 : Nat) : Int)], os ++ [((n0 + 1 - (q + 1) : Nat) : Int)], rfl, by omega, by simp; omega, by simp; omega, hE, hX, hO, hfx, hfo, hsep, rfl, rfl, rfl, rfl, trivial⟩
        · replace hc17 := dF hc17
          have hqn : q = n0 := by omega
          have hv9 := hX
          obtain ⟨a2, c2, hv2, hc2, _⟩ := hv9
          refine E.exit ?_
          refine E.seq ?_
          have hW0 := hE.size
          refine E.regionF (fun c x => x < wr.heap.size ∧ (c = false → True)) [] [] mixed rfl (by kernel_rfl) (fun _ _ h => h.1) ?_
          intro w3 hx3 hh3
          replace hX := hX.ext hx3
          replace hO := hO.ext hx3
          replace hE := hE.ext hx3
          have hEs : Ext w3 w3 := Upd.refl _
          have hS0 := hx3.size
          have hSB : ∀ b, b < w3.heap.size → b < wr.heap.size ∧ (true = false → (fun x => True) b) := fun b hb => ⟨by rw [hh3] at hb; exact hb, nofun⟩
          have hSA : ∀ b, b < w3.heap.size → (fun x => True) b → b < wr.heap.size ∧ (false = false → (fun x => True) b) := fun b hb h => ⟨by rw [hh3] at hb; exact hb, fun _ => h⟩
          have hSO : ∀ b, b < w.heap.size → b < wr.heap.size ∧ (false = false → (fun x => True) b) := fun b hb => hSA b (Nat.lt_of_lt_of_le hb hE.size) (trivial)
          have hXs := hX
          have hOs := hO
          refine G.q rfl (Nat.le_of_ble_eq_true rfl) ?_
          refine R.move ?_
          refine R.nil ?_
          refine G.buildSlice [v2, .slice none 0 0, .slice none 0 0] Try.underlying22 t35 rfl rfl (sz1 (by simp [hX.one, (hX.sub (l := 0) (r := 3) (by omega) (by omega)).one, (hX.sub (l := 3) (r := xs.length) (by omega) (by omega)).one, (hX.sub (l := 0) (r := 1) (by omega) (by omega)).one, (hX.sub (l := 1) (r := 2) (by omega) (by omega)).one, (hX.sub (l := 2) (r := xs.length) (by omega) (by omega)).one, nil_one])) (by simp) ?_
          intro w4 b32 K4 hx4 hb32 hn32 hK4 hk32 hS32
          have hn032 := hb32
          replace hb32 := Nat.le_trans hW0 hb32
          replace hX := hX.ext hx4
          replace hO := hO.ext hx4
          replace hE := hE.ext hx4
          replace hEs := hEs.ext hx4
          refine G.q rfl (Nat.le_of_ble_eq_true rfl) ?_
          refine R.build (build24 hS32.one rfl) rfl ?_
          refine R.nil ?_
          refine G.q rfl (Nat.le_of_ble_eq_true rfl) ?_
          refine R.move ?_
          refine R.nil ?_
          refine G.q rfl (Nat.le_of_ble_eq_true rfl) ?_
          refine R.slc (l := 0) (r := 3) Try.underlying35 t3 rfl hv2 rfl ⟨_, rfl⟩ (by omega) (by omega) ?_
          refine R.nil ?_
          refine G.q rfl (Nat.le_of_ble_eq_true rfl) ?_
          refine R.move ?_
          refine R.nil ?_
          refine G.q rfl (Nat.le_of_ble_eq_true rfl) ?_
          refine R.slc (l := 3) (r := xs.length) Try.underlying35 t3 rfl hv2 ⟨_, rfl⟩ rfl (by omega) (by omega) ?_
          refine R.nil ?_
          refine G.buildSlice [cut 1 v2 0 3, cut 1 v2 3 xs.length, .slice none 0 0, .slice none 0 0] Try.underlying22 t35 rfl rfl (sz1 (by simp [hX.one, (hX.sub (l := 0) (r := 3) (by omega) (by omega)).one, (hX.sub (l := 3) (r := xs.length) (by omega) (by omega)).one, (hX.sub (l := 0) (r := 1) (by omega) (by omega)).one, (hX.sub (l := 1) (r := 2) (by omega) (by omega)).one, (hX.sub (l := 2) (r := xs.length) (by omega) (by omega)).one, nil_one])) (by simp) ?_
          intro w5 b38 K5 hx5 hb38 hn38 hK5 hk38 hS38
          replace hk32 := hK5 _ hk32
          have hn038 := hb38
          replace hb38 := Nat.le_trans hW0 hb38
          replace hX := hX.ext hx5
          replace hO := hO.ext hx5
          replace hS32 := hS32.ext hx5
          replace hE := hE.ext hx5
          replace hEs := hEs.ext hx5
          refine G.q rfl (Nat.le_of_ble_eq_true rfl) ?_
          refine R.build (build24 hS38.one rfl) rfl ?_
          refine R.nil ?_
          refine G.q rfl (Nat.le_of_ble_eq_true rfl) ?_
          refine R.move ?_
          refine R.nil ?_
          refine G.q rfl (Nat.le_of_ble_eq_true rfl) ?_
          refine R.slc (l := 0) (r := 1) Try.underlying35 t3 rfl hv2 rfl ⟨_, rfl⟩ (by omega) (by omega) ?_
          refine R.nil ?_
          refine G.q rfl (Nat.le_of_ble_eq_true rfl) ?_
          refine R.move ?_
          refine R.nil ?_
          refine G.q rfl (Nat.le_of_ble_eq_true rfl) ?_
          refine R.slc (l := 1) (r := 2) Try.underlying35 t3 rfl hv2 ⟨_, rfl⟩ ⟨_, rfl⟩ (by omega) (by omega) ?_
          refine R.nil ?_
          refine G.q rfl (Nat.le_of_ble_eq_true rfl) ?_
          refine R.move ?_
          refine R.nil ?_
          refine G.q rfl (Nat.le_of_ble_eq_true rfl) ?_
          refine R.slc (l := 2) (r := xs.length) Try.underlying35 t3 rfl hv2 ⟨_, rfl⟩ rfl (by omega) (by omega) ?_
          refine R.nil ?_
          refine G.buildSlice [cut 1 v2 0 1, cut 1 v2 1 2, cut 1 v2 2 xs.length, .slice none 0 0, .slice none 0 0] Try.underlying22 t35 rfl rfl (sz1 (by simp [hX.one, (hX.sub (l := 0) (r := 3) (by omega) (by omega)).one, (hX.sub (l := 3) (r := xs.length) (by omega) (by omega)).one, (hX.sub (l := 0) (r := 1) (by omega) (by omega)).one, (hX.sub (l := 1) (r := 2) (by omega) (by omega)).one, (hX.sub (l := 2) (r := xs.length) (by omega) (by omega)).one, nil_one])) (by simp) ?_
          intro w6 b46 K6 hx6 hb46 hn46 hK6 hk46 hS46
          replace hk32 := hK6 _ hk32
          replace hk38 := hK6 _ hk38
          have hn046 := hb46
          replace hb46 := Nat.le_trans hW0 hb46
          replace hX := hX.ext hx6
          replace hO := hO.ext hx6
          replace hS32 := hS32.ext hx6
          replace hS38 := hS38.ext hx6
          replace hE := hE.ext hx6
          replace hEs := hEs.ext hx6
          refine G.q rfl (Nat.le_of_ble_eq_true rfl) ?_
          refine R.build (build24 hS46.one rfl) rfl ?_
          refine R.nil ?_
          refine G.buildSlice [.agg #[.slice (some ⟨b32, 0, none⟩) 3 3, .int .i64 6], .agg #[.slice (some ⟨b38, 0, none⟩) 4 4, .int .i64 6], .agg #[.slice (some ⟨b46, 0, none⟩) 5 5, .int .i64 6]] Try.underlying76 t24 rfl rfl (by simp [Value.cells]) (by simp) ?_
          intro w7 b48 K7 hx7 hb48 hn48 hK7 hk48 hS48
          replace hk32 := hK7 _ hk32
          replace hk38 := hK7 _ hk38
          replace hk46 := hK7 _ hk46
          have hn048 := hb48
          replace hb48 := Nat.le_trans hW0 hb48
          replace hX := hX.ext hx7
          replace hO := hO.ext hx7
          replace hS32 := hS32.ext hx7
          replace hS38 := hS38.ext hx7
          replace hS46 := hS46.ext hx7
          replace hE := hE.ext hx7
          replace hEs := hEs.ext hx7
          refine G.q rfl (Nat.le_of_ble_eq_true rfl) ?_
          refine R.lenV Try.underlying76 rfl ?_
          refine R.nil ?_
          refine G.q rfl (Nat.le_of_ble_eq_true rfl) ?_
          refine R.move ?_
          refine R.nil ?_
          refine G.nil ?_
          refine E.block ?_
          refine E.loop (fun n e wr => ∃ (i : Nat), n = 3 - i ∧ i ≤ 3 ∧ Ext w wr ∧ SInts wr v2 xs ∧ SInts wr v3 os ∧ Sl wr 24 2 (.slice (some ⟨b48, 0, none⟩) 3 3) 3 [.slice (some ⟨b32, 0, none⟩) 3 3, .int .i64 6, .slice (some ⟨b38, 0, none⟩) 4 4, .int .i64 6, .slice (some ⟨b46, 0, none⟩) 5 5, .int .i64 6] ∧ Sl wr 35 1 (.slice (some ⟨b32, 0, none⟩) 3 3) 3 [v2, .slice none 0 0, .slice none 0 0] ∧ Sl wr 35 1 (.slice (some ⟨b38, 0, none⟩) 4 4) 4 [cut 1 v2 0 3, cut 1 v2 3 xs.length, .slice none 0 0, .slice none 0 0] ∧ Sl wr 35 1 (.slice (some ⟨b46, 0, none⟩) 5 5) 5 [cut 1 v2 0 1, cut 1 v2 1 2, cut 1 v2 2 xs.length, .slice none 0 0, .slice none 0 0] ∧ Has e [(1, .int .i64 (n0 : Nat)), (2, v2), (3, v3), (48, .slice (some ⟨b48, 0, none⟩) 3 3), (49, .int .i64 3), (50, .int .i64 (i : Nat))]) (3) ?_ ?_
          · exact ⟨0, rfl, by omega, hE, hX, hO, by simpa [cellsOf, Value.cells] using hS48, by have h := hS32; rw [cellsOf_one (by simp [hX.one, (hX.sub (l := 0) (r := 3) (by omega) (by omega)).one, (hX.sub (l := 3) (r := xs.length) (by omega) (by omega)).one, (hX.sub (l := 0) (r := 1) (by omega) (by omega)).one, (hX.sub (l := 1) (r := 2) (by omega) (by omega)).one, (hX.sub (l := 2) (r := xs.length) (by omega) (by omega)).one, nil_one])] at h; exact h, by have h := hS38; rw [cellsOf_one (by simp [hX.one, (hX.sub (l := 0) (r := 3) (by omega) (by omega)).one, (hX.sub (l := 3) (r := xs.length) (by omega) (by omega)).one, (hX.sub (l := 0) (r := 1) (by omega) (by omega)).one, (hX.sub (l := 1) (r := 2) (by omega) (by omega)).one, (hX.sub (l := 2) (r := xs.length) (by omega) (by omega)).one, nil_one])] at h; exact h, by have h := hS46; rw [cellsOf_one (by simp [hX.one, (hX.sub (l := 0) (r := 3) (by omega) (by omega)).one, (hX.sub (l := 3) (r := xs.length) (by omega) (by omega)).one, (hX.sub (l := 0) (r := 1) (by omega) (by omega)).one, (hX.sub (l := 1) (r := 2) (by omega) (by omega)).one, (hX.sub (l := 2) (r := xs.length) (by omega) (by omega)).one, nil_one])] at h; exact h, rfl, rfl, rfl, rfl, rfl, rfl, trivial⟩
          · rintro n e wr ⟨i, rfl, hi, hE, hX, hO, hY, hS32, hS38, hS46, hH⟩
            obtain ⟨e, rfl⟩ := hH.ex
            clear hH
            refine E.seq ?_
            refine E.regionP rfl ?_
            refine R.lss rfl rfl rfl ?_
            refine R.nil ?_
            refine E.seq ?_
            refine E.cond rfl (fun hc51 => ?_) (fun hc51 => ?_)
            · replace hc51 := dT hc51
              have hi3 : i < 3 := by omega
              refine E.skip ?_
              refine E.seq ?_
              refine E.block ?_
              refine E.seq ?_
              have hi0 : i = 0 ∨ i = 1 ∨ i = 2 := by omega
              rcases hi0 with rfl | rfl | rfl
              · have hMc := mo_of (xss := [xs, [], []]) hS32 rfl ⟨hX, SInts.nil _, SInts.nil _, trivial⟩
                have hFc : Fit [xs, [], []] := fit1 (l := [xs.length, 0, 0]) rfl (by simp) (by simp; omega)
                refine E.regionP rfl ?_
                refine R.ix (m := 0) Try.underlying76 t24 (by decide) hY.row rfl rfl (by decide) ?_
                refine R.loadE (j := 0 * 2) (us := [.slice (some ⟨b32, 0, none⟩) 3 3, .int .i64 6]) t24 (by decide) hY.row rfl rfl rfl rfl (fun _ _ => trivial) ?_
                refine R.alloc t24 nofun ?_
                intro b6 w6a hb6 hx6a hB6
                have hn6 : b48 ≠ b6 := by have := hY.lt b48 rfl; omega
                replace hb6 := Nat.le_trans hE.size hb6
                replace hX := hX.ext hx6a
                replace hO := hO.ext hx6a
                replace hY := hY.ext hx6a
                replace hS32 := hS32.ext hx6a
                replace hS38 := hS38.ext hx6a
                replace hS46 := hS46.ext hx6a
                replace hMc := hMc.ext hx6a
                replace hE := hE.ext hx6a
                replace hB6 : Blk _ b6 24 #[.slice none 0 0, .int .i64 0] := hB6
                refine R.storeA t24 hB6 rfl rfl rfl rfl (ones2 hMc.row.one rfl) nofun ?_
                intro w6b hU6 hs6 hN6
                replace hX := hX.upT hU6 hB6 (by decide)
                replace hO := hO.upT hU6 hB6 (by decide)
                replace hS32 := hS32.upT hU6 hB6 (by decide)
                replace hS38 := hS38.upT hU6 hB6 (by decide)
                replace hS46 := hS46.upT hU6 hB6 (by decide)
                replace hMc := hMc.upT hU6 hB6 (by decide)
                replace hY := hY.up hU6 (fun b e h => hn6 (by have e1 : some b48 = some b := e; have e2 : b = b6 := h; simp at e1; omega))
                replace hE := hE.own hU6 hb6
                replace hB6 : Blk _ b6 24 #[.slice (some ⟨b32, 0, none⟩) 3 3, .int .i64 6] := hN6
                refine R.nil ?_
                refine E.seq ?_
                refine E.regionW (fun _ b => b < w6b.heap.size) [] mixed rfl (by kernel_rfl) ?_
                intro w8 hx8 hh8
                replace hX := hX.ext hx8
                replace hO := hO.ext hx8
                replace hY := hY.ext hx8
                replace hS32 := hS32.ext hx8
                replace hS38 := hS38.ext hx8
                replace hS46 := hS46.ext hx8
                replace hMc := hMc.ext hx8
                replace hB6 := hB6.ext hx8
                replace hE := hE.ext hx8
                have hEs : Ext w8 w8 := Upd.refl _
                have hS0 := hx8.size
                have hSs : ∀ b, b < w8.heap.size → b < w6b.heap.size := fun b hb => by rw [hh8] at hb; exact hb
                have hSa : ∀ b, b < w.heap.size → b < w6b.heap.size := fun b hb => by have := hE.size; rw [hh8] at this; omega
                have hXs := hX
                have hOs := hO
                have hYs := hY
                have hS32s := hS32
                have hS38s := hS38
                have hS46s := hS46
                have hMcs := hMc
                have hB6s := hB6
                refine R.loadAE t24 hB6s hEs rfl rfl rfl hSs ?_
                refine R.move ?_
                refine R.callE2 ent48 (finds_ _ hMc.mat hO.row hFc (by first | omega | (simp; omega))) rfl rfl (fun _ _ hb => Nat.lt_of_lt_of_le hb (Nat.le_trans hS0 hEs.size)) ?_
                rintro v56 w9 hx9 rfl
                replace hX := hX.ext hx9
                replace hO := hO.ext hx9
                replace hY := hY.ext hx9
                replace hS32 := hS32.ext hx9
                replace hS38 := hS38.ext hx9
                replace hS46 := hS46.ext hx9
                replace hMc := hMc.ext hx9
                replace hB6 := hB6.ext hx9
                replace hE := hE.ext hx9
                replace hEs := hEs.ext hx9
                refine R.not rfl ?_
                refine R.move ?_
                refine R.gT rfl rfl ?_
                refine R.loadAE t24 hB6s hEs rfl rfl rfl hSs ?_
                refine R.gT rfl rfl ?_
                refine R.move ?_
                refine R.gT rfl rfl ?_
                refine R.callE2 ent48 (finds_ _ hMc.mat hX.row hFc (by first | omega | (simp; omega))) rfl rfl (fun _ _ hb => Nat.lt_of_lt_of_le hb (Nat.le_trans hS0 hEs.size)) ?_
                rintro v61 w10 hx10 rfl
                replace hX := hX.ext hx10
                replace hO := hO.ext hx10
                replace hY := hY.ext hx10
                replace hS32 := hS32.ext hx10
                replace hS38 := hS38.ext hx10
                replace hS46 := hS46.ext hx10
                replace hMc := hMc.ext hx10
                replace hB6 := hB6.ext hx10
                replace hE := hE.ext hx10
                replace hEs := hEs.ext hx10
                refine R.gT rfl rfl ?_
                refine R.not rfl ?_
                refine R.pickF rfl ?_
                refine R.move ?_
                refine R.gT rfl rfl ?_
                refine R.loadAE t24 hB6s hEs rfl rfl rfl hSs ?_
                refine R.gT rfl rfl ?_
                refine R.move ?_
                refine R.gT rfl rfl ?_
                refine R.callE2 ent47 (runs_ _ hMc.mat hX.row hFc (by omega)) rfl rfl (fun _ _ hb => Nat.lt_of_lt_of_le hb (Nat.le_trans hS0 hEs.size)) ?_
                rintro v67 w11 hx11 rfl
                replace hX := hX.ext hx11
                replace hO := hO.ext hx11
                replace hY := hY.ext hx11
                replace hS32 := hS32.ext hx11
                replace hS38 := hS38.ext hx11
                replace hS46 := hS46.ext hx11
                replace hMc := hMc.ext hx11
                replace hB6 := hB6.ext hx11
                replace hE := hE.ext hx11
                replace hEs := hEs.ext hx11
                refine R.gT rfl rfl ?_
                refine R.not rfl ?_
                refine R.pickF rfl ?_
                refine R.move ?_
                refine R.gT rfl rfl ?_
                refine R.loadAE t24 hB6s hEs rfl rfl rfl hSs ?_
                refine R.gT rfl rfl ?_
                refine R.move ?_
                refine R.gT rfl rfl ?_
                refine R.slc (l := 0) (r := 1) Try.underlying35 t3 rfl hv2 rfl ⟨_, rfl⟩ (by omega) (by omega) ?_
                refine R.gT rfl rfl ?_
                refine R.callE2 ent48 (finds_ _ hMc.mat (hX.sub (l := 0) (r := 1) (by omega) (by omega)).row hFc (by first | omega | (simp; omega))) rfl rfl (fun _ _ hb => Nat.lt_of_lt_of_le hb (Nat.le_trans hS0 hEs.size)) ?_
                rintro v74 w12 hx12 rfl
                replace hX := hX.ext hx12
                replace hO := hO.ext hx12
                replace hY := hY.ext hx12
                replace hS32 := hS32.ext hx12
                replace hS38 := hS38.ext hx12
                replace hS46 := hS46.ext hx12
                replace hMc := hMc.ext hx12
                replace hB6 := hB6.ext hx12
                replace hE := hE.ext hx12
                replace hEs := hEs.ext hx12
                refine R.gT rfl rfl ?_
                refine R.not rfl ?_
                refine R.pickF rfl ?_
                refine R.nil ?_
                refine E.condF rfl ?_
                refine E.skip ?_
                refine E.regionP rfl ?_
                refine R.addN (n := 1) rfl rfl (by omega) ?_
                refine R.move ?_
                refine R.nil ?_
                exact ⟨3 - (0 + 1), by omega, 0 + 1, rfl, by omega, hE, hX, hO, hY, hS32, hS38, hS46, rfl, rfl, rfl, rfl, rfl, rfl, trivial⟩
              · have hMc := mo_of (xss := [(xs.drop 0).take (3 - 0), (xs.drop 3).take (xs.length - 3), [], []]) hS38 rfl ⟨hX.sub (by omega) (by omega), hX.sub (by omega) (by omega), SInts.nil _, SInts.nil _, trivial⟩
                have hFc : Fit [(xs.drop 0).take (3 - 0), (xs.drop 3).take (xs.length - 3), [], []] := fit1 (l := [min 3 xs.length, xs.length - 3, 0, 0]) (by simp) (by simp) (by simp; omega)
                refine E.regionP rfl ?_
                refine R.ix (m := 1) Try.underlying76 t24 (by decide) hY.row rfl rfl (by decide) ?_
                refine R.loadE (j := 1 * 2) (us := [.slice (some ⟨b38, 0, none⟩) 4 4, .int .i64 6]) t24 (by decide) hY.row rfl rfl rfl rfl (fun _ _ => trivial) ?_
                refine R.alloc t24 nofun ?_
                intro b6 w6a hb6 hx6a hB6
                have hn6 : b48 ≠ b6 := by have := hY.lt b48 rfl; omega
                replace hb6 := Nat.le_trans hE.size hb6
                replace hX := hX.ext hx6a
                replace hO := hO.ext hx6a
                replace hY := hY.ext hx6a
                replace hS32 := hS32.ext hx6a
                replace hS38 := hS38.ext hx6a
                replace hS46 := hS46.ext hx6a
                replace hMc := hMc.ext hx6a
                replace hE := hE.ext hx6a
                replace hB6 : Blk _ b6 24 #[.slice none 0 0, .int .i64 0] := hB6
                refine R.storeA t24 hB6 rfl rfl rfl rfl (ones2 hMc.row.one rfl) nofun ?_
                intro w6b hU6 hs6 hN6
                replace hX := hX.upT hU6 hB6 (by decide)
                replace hO := hO.upT hU6 hB6 (by decide)
                replace hS32 := hS32.upT hU6 hB6 (by decide)
                replace hS38 := hS38.upT hU6 hB6 (by decide)
                replace hS46 := hS46.upT hU6 hB6 (by decide)
                replace hMc := hMc.upT hU6 hB6 (by decide)
                replace hY := hY.up hU6 (fun b e h => hn6 (by have e1 : some b48 = some b := e; have e2 : b = b6 := h; simp at e1; omega))
                replace hE := hE.own hU6 hb6
                replace hB6 : Blk _ b6 24 #[.slice (some ⟨b38, 0, none⟩) 4 4, .int .i64 6] := hN6
                refine R.nil ?_
                refine E.seq ?_
                refine E.regionW (fun _ b => b < w6b.heap.size) [] mixed rfl (by kernel_rfl) ?_
                intro w13 hx13 hh13
                replace hX := hX.ext hx13
                replace hO := hO.ext hx13
                replace hY := hY.ext hx13
                replace hS32 := hS32.ext hx13
                replace hS38 := hS38.ext hx13
                replace hS46 := hS46.ext hx13
                replace hMc := hMc.ext hx13
                replace hB6 := hB6.ext hx13
                replace hE := hE.ext hx13
                have hEs : Ext w13 w13 := Upd.refl _
                have hS0 := hx13.size
                have hSs : ∀ b, b < w13.heap.size → b < w6b.heap.size := fun b hb => by rw [hh13] at hb; exact hb
                have hSa : ∀ b, b < w.heap.size → b < w6b.heap.size := fun b hb => by have := hE.size; rw [hh13] at this; omega
                have hXs := hX
                have hOs := hO
                have hYs := hY
                have hS32s := hS32
                have hS38s := hS38
                have hS46s := hS46
                have hMcs := hMc
                have hB6s := hB6
                refine R.loadAE t24 hB6s hEs rfl rfl rfl hSs ?_
                refine R.move ?_
                refine R.callE2 ent48 (finds_ _ hMc.mat hO.row hFc (by first | omega | (simp; omega))) rfl rfl (fun _ _ hb => Nat.lt_of_lt_of_le hb (Nat.le_trans hS0 hEs.size)) ?_
                rintro v56 w14 hx14 rfl
                replace hX := hX.ext hx14
                replace hO := hO.ext hx14
                replace hY := hY.ext hx14
                replace hS32 := hS32.ext hx14
                replace hS38 := hS38.ext hx14
                replace hS46 := hS46.ext hx14
                replace hMc := hMc.ext hx14
                replace hB6 := hB6.ext hx14
                replace hE := hE.ext hx14
                replace hEs := hEs.ext hx14
                refine R.not rfl ?_
                refine R.move ?_
                refine R.gT rfl rfl ?_
                refine R.loadAE t24 hB6s hEs rfl rfl rfl hSs ?_
                refine R.gT rfl rfl ?_
                refine R.move ?_
                refine R.gT rfl rfl ?_
                refine R.callE2 ent48 (finds_ _ hMc.mat hX.row hFc (by first | omega | (simp; omega))) rfl rfl (fun _ _ hb => Nat.lt_of_lt_of_le hb (Nat.le_trans hS0 hEs.size)) ?_
                rintro v61 w15 hx15 rfl
                replace hX := hX.ext hx15
                replace hO := hO.ext hx15
                replace hY := hY.ext hx15
                replace hS32 := hS32.ext hx15
                replace hS38 := hS38.ext hx15
                replace hS46 := hS46.ext hx15
                replace hMc := hMc.ext hx15
                replace hB6 := hB6.ext hx15
                replace hE := hE.ext hx15
                replace hEs := hEs.ext hx15
                refine R.gT rfl rfl ?_
                refine R.not rfl ?_
                refine R.pickF rfl ?_
                refine R.move ?_
                refine R.gT rfl rfl ?_
                refine R.loadAE t24 hB6s hEs rfl rfl rfl hSs ?_
                refine R.gT rfl rfl ?_
                refine R.move ?_
                refine R.gT rfl rfl ?_
                refine R.callE2 ent47 (runs_ _ hMc.mat hX.row hFc (by omega)) rfl rfl (fun _ _ hb => Nat.lt_of_lt_of_le hb (Nat.le_trans hS0 hEs.size)) ?_
                rintro v67 w16 hx16 rfl
                replace hX := hX.ext hx16
                replace hO := hO.ext hx16
                replace hY := hY.ext hx16
                replace hS32 := hS32.ext hx16
                replace hS38 := hS38.ext hx16
                replace hS46 := hS46.ext hx16
                replace hMc := hMc.ext hx16
                replace hB6 := hB6.ext hx16
                replace hE := hE.ext hx16
                replace hEs := hEs.ext hx16
                refine R.gT rfl rfl ?_
                refine R.not rfl ?_
                refine R.pickF rfl ?_
                refine R.move ?_
                refine R.gT rfl rfl ?_
                refine R.loadAE t24 hB6s hEs rfl rfl rfl hSs ?_
                refine R.gT rfl rfl ?_
                refine R.move ?_
                refine R.gT rfl rfl ?_
                refine R.slc (l := 0) (r := 1) Try.underlying35 t3 rfl hv2 rfl ⟨_, rfl⟩ (by omega) (by omega) ?_
                refine R.gT rfl rfl ?_
                refine R.callE2 ent48 (finds_ _ hMc.mat (hX.sub (l := 0) (r := 1) (by omega) (by omega)).row hFc (by first | omega | (simp; omega))) rfl rfl (fun _ _ hb => Nat.lt_of_lt_of_le hb (Nat.le_trans hS0 hEs.size)) ?_
                rintro v74 w17 hx17 rfl
                replace hX := hX.ext hx17
                replace hO := hO.ext hx17
                replace hY := hY.ext hx17
                replace hS32 := hS32.ext hx17
                replace hS38 := hS38.ext hx17
                replace hS46 := hS46.ext hx17
                replace hMc := hMc.ext hx17
                replace hB6 := hB6.ext hx17
                replace hE := hE.ext hx17
                replace hEs := hEs.ext hx17
                refine R.gT rfl rfl ?_
                refine R.not rfl ?_
                refine R.pickF rfl ?_
                refine R.nil ?_
                refine E.condF rfl ?_
                refine E.skip ?_
                refine E.regionP rfl ?_
                refine R.addN (n := 1) rfl rfl (by omega) ?_
                refine R.move ?_
                refine R.nil ?_
                exact ⟨3 - (1 + 1), by omega, 1 + 1, rfl, by omega, hE, hX, hO, hY, hS32, hS38, hS46, rfl, rfl, rfl, rfl, rfl, rfl, trivial⟩
              · have hMc := mo_of (xss := [(xs.drop 0).take (1 - 0), (xs.drop 1).take (2 - 1), (xs.drop 2).take (xs.length - 2), [], []]) hS46 rfl ⟨hX.sub (by omega) (by omega), hX.sub (by omega) (by omega), hX.sub (by omega) (by omega), SInts.nil _, SInts.nil _, trivial⟩
                have hFc : Fit [(xs.drop 0).take (1 - 0), (xs.drop 1).take (2 - 1), (xs.drop 2).take (xs.length - 2), [], []] := fit1 (l := [min 1 xs.length, min 1 (xs.length - 1), xs.length - 2, 0, 0]) (by simp) (by simp) (by simp; omega)
                refine E.regionP rfl ?_
                refine R.ix (m := 2) Try.underlying76 t24 (by decide) hY.row rfl rfl (by decide) ?_
                refine R.loadE (j := 2 * 2) (us := [.slice (some ⟨b46, 0, none⟩) 5 5, .int .i64 6]) t24 (by decide) hY.row rfl rfl rfl rfl (fun _ _ => trivial) ?_
                refine R.alloc t24 nofun ?_
                intro b6 w6a hb6 hx6a hB6
                have hn6 : b48 ≠ b6 := by have := hY.lt b48 rfl; omega
                replace hb6 := Nat.le_trans hE.size hb6
                replace hX := hX.ext hx6a
                replace hO := hO.ext hx6a
                replace hY := hY.ext hx6a
                replace hS32 := hS32.ext hx6a
                replace hS38 := hS38.ext hx6a
                replace hS46 := hS46.ext hx6a
                replace hMc := hMc.ext hx6a
                replace hE := hE.ext hx6a
                replace hB6 : Blk _ b6 24 #[.slice none 0 0, .int .i64 0] := hB6
                refine R.storeA t24 hB6 rfl rfl rfl rfl (ones2 hMc.row.one rfl) nofun ?_
                intro w6b hU6 hs6 hN6
                replace hX := hX.upT hU6 hB6 (by decide)
                replace hO := hO.upT hU6 hB6 (by decide)
                replace hS32 := hS32.upT hU6 hB6 (by decide)
                replace hS38 := hS38.upT hU6 hB6 (by decide)
                replace hS46 := hS46.upT hU6 hB6 (by decide)
                replace hMc := hMc.upT hU6 hB6 (by decide)
                replace hY := hY.up hU6 (fun b e h => hn6 (by have e1 : some b48 = some b := e; have e2 : b = b6 := h; simp at e1; omega))
                replace hE := hE.own hU6 hb6
                replace hB6 : Blk _ b6 24 #[.slice (some ⟨b46, 0, none⟩) 5 5, .int .i64 6] := hN6
                refine R.nil ?_
                refine E.seq ?_
                refine E.regionW (fun _ b => b < w6b.heap.size) [] mixed rfl (by kernel_rfl) ?_
                intro w18 hx18 hh18
                replace hX := hX.ext hx18
                replace hO := hO.ext hx18
                replace hY := hY.ext hx18
                replace hS32 := hS32.ext hx18
                replace hS38 := hS38.ext hx18
                replace hS46 := hS46.ext hx18
                replace hMc := hMc.ext hx18
                replace hB6 := hB6.ext hx18
                replace hE := hE.ext hx18
                have hEs : Ext w18 w18 := Upd.refl _
                have hS0 := hx18.size
                have hSs : ∀ b, b < w18.heap.size → b < w6b.heap.size := fun b hb => by rw [hh18] at hb; exact hb
                have hSa : ∀ b, b < w.heap.size → b < w6b.heap.size := fun b hb => by have := hE.size; rw [hh18] at this; omega
                have hXs := hX
                have hOs := hO
                have hYs := hY
                have hS32s := hS32
                have hS38s := hS38
                have hS46s := hS46
                have hMcs := hMc
                have hB6s := hB6
                refine R.loadAE t24 hB6s hEs rfl rfl rfl hSs ?_
                refine R.move ?_
                refine R.callE2 ent48 (finds_ _ hMc.mat hO.row hFc (by first | omega | (simp; omega))) rfl rfl (fun _ _ hb => Nat.lt_of_lt_of_le hb (Nat.le_trans hS0 hEs.size)) ?_
                rintro v56 w19 hx19 rfl
                replace hX := hX.ext hx19
                replace hO := hO.ext hx19
                replace hY := hY.ext hx19
                replace hS32 := hS32.ext hx19
                replace hS38 := hS38.ext hx19
                replace hS46 := hS46.ext hx19
                replace hMc := hMc.ext hx19
                replace hB6 := hB6.ext hx19
                replace hE := hE.ext hx19
                replace hEs := hEs.ext hx19
                refine R.not rfl ?_
                refine R.move ?_
                refine R.gT rfl rfl ?_
                refine R.loadAE t24 hB6s hEs rfl rfl rfl hSs ?_
                refine R.gT rfl rfl ?_
                refine R.move ?_
                refine R.gT rfl rfl ?_
                refine R.callE2 ent48 (finds_ _ hMc.mat hX.row hFc (by first | omega | (simp; omega))) rfl rfl (fun _ _ hb => Nat.lt_of_lt_of_le hb (Nat.le_trans hS0 hEs.size)) ?_
                rintro v61 w20 hx20 rfl
                replace hX := hX.ext hx20
                replace hO := hO.ext hx20
                replace hY := hY.ext hx20
                replace hS32 := hS32.ext hx20
                replace hS38 := hS38.ext hx20
                replace hS46 := hS46.ext hx20
                replace hMc := hMc.ext hx20
                replace hB6 := hB6.ext hx20
                replace hE := hE.ext hx20
                replace hEs := hEs.ext hx20
                refine R.gT rfl rfl ?_
                refine R.not rfl ?_
                refine R.pickF rfl ?_
                refine R.move ?_
                refine R.gT rfl rfl ?_
                refine R.loadAE t24 hB6s hEs rfl rfl rfl hSs ?_
                refine R.gT rfl rfl ?_
                refine R.move ?_
                refine R.gT rfl rfl ?_
                refine R.callE2 ent47 (runs_ _ hMc.mat hX.row hFc (by omega)) rfl rfl (fun _ _ hb => Nat.lt_of_lt_of_le hb (Nat.le_trans hS0 hEs.size)) ?_
                rintro v67 w21 hx21 rfl
                replace hX := hX.ext hx21
                replace hO := hO.ext hx21
                replace hY := hY.ext hx21
                replace hS32 := hS32.ext hx21
                replace hS38 := hS38.ext hx21
                replace hS46 := hS46.ext hx21
                replace hMc := hMc.ext hx21
                replace hB6 := hB6.ext hx21
                replace hE := hE.ext hx21
                replace hEs := hEs.ext hx21
                refine R.gT rfl rfl ?_
                refine R.not rfl ?_
                refine R.pickF rfl ?_
                refine R.move ?_
                refine R.gT rfl rfl ?_
                refine R.loadAE t24 hB6s hEs rfl rfl rfl hSs ?_
                refine R.gT rfl rfl ?_
                refine R.move ?_
                refine R.gT rfl rfl ?_
                refine R.slc (l := 0) (r := 1) Try.underlying35 t3 rfl hv2 rfl ⟨_, rfl⟩ (by omega) (by omega) ?_
                refine R.gT rfl rfl ?_
                refine R.callE2 ent48 (finds_ _ hMc.mat (hX.sub (l := 0) (r := 1) (by omega) (by omega)).row hFc (by first | omega | (simp; omega))) rfl rfl (fun _ _ hb => Nat.lt_of_lt_of_le hb (Nat.le_trans hS0 hEs.size)) ?_
                rintro v74 w22 hx22 rfl
                replace hX := hX.ext hx22
                replace hO := hO.ext hx22
                replace hY := hY.ext hx22
                replace hS32 := hS32.ext hx22
                replace hS38 := hS38.ext hx22
                replace hS46 := hS46.ext hx22
                replace hMc := hMc.ext hx22
                replace hB6 := hB6.ext hx22
                replace hE := hE.ext hx22
                replace hEs := hEs.ext hx22
                refine R.gT rfl rfl ?_
                refine R.not rfl ?_
                refine R.pickF rfl ?_
                refine R.nil ?_
                refine E.condF rfl ?_
                refine E.skip ?_
                refine E.regionP rfl ?_
                refine R.addN (n := 1) rfl rfl (by omega) ?_
                refine R.move ?_
                refine R.nil ?_
                exact ⟨3 - (2 + 1), by omega, 2 + 1, rfl, by omega, hE, hX, hO, hY, hS32, hS38, hS46, rfl, rfl, rfl, rfl, rfl, rfl, trivial⟩
            · replace hc51 := dF hc51
              refine E.exit ?_
              refine E.regionP rfl ?_
              refine R.move ?_
              refine R.addN (m := n0) (n := 1) rfl rfl (by omega) ?_
              refine R.assign ?_
              refine R.nil ?_
              exact ⟨9 - (n0 + 1), by omega, n0 + 1, rfl, by omega, by omega, hE, rfl, trivial⟩
    · replace hc12 := dF hc12
      refine E.exit ?_
      refine E.seq ?_
      refine E.regionP rfl ?_
      refine R.buildSlice [.int .i64 1] Try.underlying35 t3 rfl rfl (by simp [Value.cells]) (by simp) nofun ?_
      intro b78 w23 hb78 hx23 hB78 hS78
      replace hb78 := Nat.le_trans hE.size hb78
      replace hE := hE.ext hx23
      refine R.buildSlice [.slice (some ⟨b78, 0, none⟩) 1 1, .slice none 0 0] Try.underlying22 t35 rfl rfl (by simp [Value.cells]) (by simp) nofun ?_
      intro b79 w24 hb79 hx24 hB79 hS79
      replace hb79 := Nat.le_trans hE.size hb79
      replace hS78 := hS78.ext hx24
      replace hE := hE.ext hx24
      refine R.build (build24 hS79.one rfl) rfl ?_
      refine R.alloc t24 nofun ?_
      intro b7 w25 hb7 hx25 hB7
      replace hb7 := Nat.le_trans hE.size hb7
      replace hS78 := hS78.ext hx25
      replace hS79 := hS79.ext hx25
      replace hE := hE.ext hx25
      replace hB7 : Blk _ b7 24 #[.slice none 0 0, .int .i64 0] := hB7
      refine R.storeA t24 hB7 rfl rfl rfl rfl (ones2 hS79.one rfl) nofun ?_
      intro w26 hU26 hs26 hN26
      replace hS78 := hS78.upT hU26 hB7 (by decide)
      replace hS79 := hS79.upT hU26 hB7 (by decide)
      replace hE := hE.own hU26 hb7
      replace hB7 : Blk _ b7 24 #[_, .int .i64 1] := hN26
      clear hN26
      refine R.nil ?_
      refine E.seq ?_
      refine E.seq ?_
      refine E.regionP rfl ?_
      refine R.assign ?_
      refine R.nil ?_
      refine E.block ?_
      refine E.loop (fun n e wr => ∃ (m : Nat), n = 2002 - m ∧ m ≤ 2002 ∧ Ext w wr ∧ Sl wr 35 1 (.slice (some ⟨b79, 0, none⟩) 2 2) 2 [.slice (some ⟨b78, 0, none⟩) 1 1, .slice none 0 0] ∧ SInts wr (.slice (some ⟨b78, 0, none⟩) 1 1) [1] ∧ Blk wr b7 24 #[.slice (some ⟨b79, 0, none⟩) 2 2, .int .i64 1] ∧ Has e [(7, .pointer (some ⟨b7, 0, none⟩)), (8, .int .i64 (m : Nat))]) (2002 - 1999) ?_ ?_
      · exact ⟨1999, rfl, by omega, hE, by simpa [cellsOf, Value.cells] using hS79, by simpa [SInts, cellsOf, Value.cells, ints] using hS78, hB7, rfl, rfl, trivial⟩
      · rintro n e wr ⟨m, rfl, hm, hE, hS79, hS78, hB7, hH⟩
        obtain ⟨e, rfl⟩ := hH.ex
        clear hH
        refine E.seq ?_
        refine E.seq ?_
        refine E.regionP rfl ?_
        refine R.move ?_
        refine R.lss rfl rfl rfl ?_
        refine R.nil ?_
        refine E.cond rfl (fun hc82 => ?_) (fun hc82 => ?_)
        · replace hc82 := dT hc82
          have hm2 : m < 2002 := by omega
          refine E.skip ?_
          refine E.seq ?_
          refine E.block ?_
          refine E.seq ?_
          refine E.regionP rfl ?_
          refine R.assign ?_
          refine R.nil ?_
          refine E.seq ?_
          refine E.seq ?_
          refine E.regionP rfl ?_
          refine R.assign ?_
          refine R.nil ?_
          refine E.block ?_
          refine E.loop (fun n e wr => ∃ (i : Nat) (ov : Value) (ss : List (Int × Int × Int)), n = m - i ∧ i ≤ m ∧ ss.length = i ∧ Ext w wr ∧ Sl wr 35 1 (.slice (some ⟨b79, 0, none⟩) 2 2) 2 [.slice (some ⟨b78, 0, none⟩) 1 1, .slice none 0 0] ∧ SInts wr (.slice (some ⟨b78, 0, none⟩) 1 1) [1] ∧ Blk wr b7 24 #[.slice (some ⟨b79, 0, none⟩) 2 2, .int .i64 1] ∧ Sl wr 68 3 ov ss.length (stepsC ss) ∧ Fresh w ov ∧ Has e [(7, .pointer (some ⟨b7, 0, none⟩)), (8, .int .i64 (m : Nat)), (9, ov), (10, .int .i64 (i : Nat))]) (m) ?_ ?_
          · exact ⟨0, _, [], rfl, Nat.zero_le _, rfl, hE, hS79, hS78, hB7, Sl.nil _ _ _, Fresh.nil _, rfl, rfl, rfl, rfl, trivial⟩
          · rintro n e wr ⟨i, ov, ss, rfl, hi, hsl, hE, hS79, hS78, hB7, hV, hf, hH⟩
            obtain ⟨e, rfl⟩ := hH.ex
            clear hH
            refine E.seq ?_
            refine E.seq ?_
            refine E.regionP rfl ?_
            refine R.move ?_
            refine R.move ?_
            refine R.lss rfl rfl rfl ?_
            refine R.nil ?_
            refine E.cond rfl (fun hc87 => ?_) (fun hc87 => ?_)
            · replace hc87 := dT hc87
              have hi1 : i < m := by omega
              refine E.skip ?_
              refine E.seq ?_
              refine E.block ?_
              refine E.regionP rfl ?_
              refine R.move ?_
              refine R.move ?_
              refine R.remN (m := i) (n := 2) rfl rfl (by omega) ?_
              refine R.move ?_
              refine R.remN (m := i) (n := 2) rfl rfl (by omega) ?_
              refine R.subN (m := 1) (n := i % 2) rfl rfl (by omega) (by omega) ?_
              refine R.build build68 rfl ?_
              refine R.buildSlice [.agg #[.int .i64 1, .int .i64 ((i % 2 : Nat) : Int), .int .i64 ((1 - i % 2 : Nat) : Int)]] Try.underlying62 t68 rfl rfl (by simp [Value.cells]) (by simp) nofun ?_
              intro b97 w27 hb97 hx27 hB97 hS97
              replace hb97 := Nat.le_trans hE.size hb97
              replace hS79 := hS79.ext hx27
              replace hS78 := hS78.ext hx27
              replace hV := hV.ext hx27
              replace hB7 := hB7.ext hx27
              replace hE := hE.ext hx27
              refine R.append (m := 1) Try.underlying62 Try.underlying62 t68 (by decide) rfl hV hS97.row (by simp [cellsOf, Value.cells, Value.oneCell']) rfl rfl (by omega) (by omega) nofun ?_
              intro v98 w98 hU98 hS98 hd98
              have hf98 := Fresh.app' hE.size hf hd98
              replace hS79 := hS79.up hU98 (fun b e e' => by obtain ⟨c1, q1⟩ := hS79.blk e; obtain ⟨c2, q2⟩ := hV.blk e'; exact absurd (q1.inj q2).2 (by decide))
              replace hS78 := hS78.up hU98 (fun b e e' => by obtain ⟨c1, q1⟩ := hS78.blk e; obtain ⟨c2, q2⟩ := hV.blk e'; exact absurd (q1.inj q2).2 (by decide))
              replace hB7 := hB7.upS hU98 hV (by decide)
              replace hE := hE.app hU98 hf
              replace hV : Sl w98 68 3 v98 (ss ++ [(1, ((i % 2 : Nat) : Int), ((1 - i % 2 : Nat) : Int))]).length (stepsC (ss ++ [(1, ((i % 2 : Nat) : Int), ((1 - i % 2 : Nat) : Int))])) := by
                rw [stepsC_snoc, List.length_append]
                simpa [cellsOf, Value.cells] using hS98
              clear hS97 hS98 hd98
              refine R.assign ?_
              refine R.nil ?_
              refine E.regionP rfl ?_
              refine R.move ?_
              refine R.addN (m := i) (n := 1) rfl rfl (by omega) ?_
              refine R.assign ?_
              refine R.nil ?_
              exact ⟨m - (i + 1), by omega, i + 1, v98, ss ++ [(1, ((i % 2 : Nat) : Int), ((1 - i % 2 : Nat) : Int))], rfl, by omega, by simp; omega, hE, hS79, hS78, hB7, hV, hf98, rfl, rfl, rfl, rfl, trivial⟩
            · replace hc87 := dF hc87
              have hqn : i = m := by omega
              refine E.exit ?_
              refine E.seq ?_
              refine E.regionP rfl ?_
              refine R.loadA t24 hB7 rfl rfl rfl trivial ?_
              refine R.move ?_
              refine R.callE3 ent43 (checks_ _ (mo_of (xss := [[1], []]) hS79 rfl ⟨hS78, SInts.nil _, trivial⟩).mat (ord := []) (Row.nil _ _) hV.row (fit1 (l := [1, 0]) rfl (by simp) (by simp)) (by simp) (by omega)) rfl rfl rfl nofun ?_
              rintro v101 w28 hx28 rfl
              replace hS79 := hS79.ext hx28
              replace hS78 := hS78.ext hx28
              replace hV := hV.ext hx28
              replace hB7 := hB7.ext hx28
              replace hE := hE.ext hx28
              refine R.not rfl ?_
              refine R.move ?_
              refine R.gT rfl rfl ?_
              refine R.loadA t24 hB7 rfl rfl rfl trivial ?_
              refine R.gT rfl rfl ?_
              refine R.buildSlice [.int .i64 1] Try.underlying35 t3 rfl rfl (by simp [Value.cells]) (by simp) nofun ?_
              intro b105 w29 hb105 hx29 hB105 hS105
              replace hb105 := Nat.le_trans hE.size hb105
              replace hS79 := hS79.ext hx29
              replace hS78 := hS78.ext hx29
              replace hV := hV.ext hx29
              replace hB7 := hB7.ext hx29
              replace hE := hE.ext hx29
              refine R.gT rfl rfl ?_
              refine R.move ?_
              refine R.gT rfl rfl ?_
              refine R.callE3 ent43 (checks_ _ (mo_of (xss := [[1], []]) hS79 rfl ⟨hS78, SInts.nil _, trivial⟩).mat (ord := [1]) hS105.row hV.row (fit1 (l := [1, 0]) rfl (by simp) (by simp)) (by simp) (by omega)) rfl rfl rfl nofun ?_
              rintro v107 w30 hx30 rfl
              replace hS79 := hS79.ext hx30
              replace hS78 := hS78.ext hx30
              replace hV := hV.ext hx30
              replace hS105 := hS105.ext hx30
              replace hB7 := hB7.ext hx30
              replace hE := hE.ext hx30
              refine R.gT rfl rfl ?_
              refine R.not rfl ?_
              refine R.pickF rfl ?_
              refine R.nil ?_
              refine E.condF rfl ?_
              refine E.skip ?_
              refine E.regionP rfl ?_
              refine R.move ?_
              refine R.addN (m := m) (n := 1) rfl rfl (by omega) ?_
              refine R.assign ?_
              refine R.nil ?_
              exact ⟨2002 - (m + 1), by omega, m + 1, rfl, by omega, hE, hS79, hS78, hB7, rfl, rfl, trivial⟩
        · replace hc82 := dF hc82
          refine E.exit ?_
          refine E.seq ?_
          refine E.regionP rfl ?_
          refine R.assign ?_
          refine R.nil ?_
          refine E.ret ?_
          exact ret1 (.bool true) rfl rfl ⟨_, rfl, hE, rfl⟩
end Go.Proofs.Ytfdmndkoiheebaa
