import Derived.Test.YtfdmndkoiheebaaZ16C4
import Derived.Test.YtfdmndkoiheebaaZ16Ops5
import Derived.Test.YtfdmndkoiheebaaZ16B4
import Derived.Test.YtfdmndkoiheebaaZ16B5
import Derived.Test.YtfdmndkoiheebaaZ16Base4
import Derived.Test.YtfdmndkoiheebaaZ16Yard
namespace Go.Proofs.Ytfdmndkoiheebaa
open Go Go.RowKit
theorem Sl.blk_lt {w : World} {ty : TypeId} {k n b : Nat} {v : Value} {cs : List Value} (h : Sl w ty k v n cs) (e : vblk v = some b) : b < w.heap.size := by
  obtain ⟨a, cap, rfl, _, _, h | ⟨b', off, cur, rfl, hb, _⟩⟩ := h
  · obtain ⟨rfl, _⟩ := h; simp [vblk] at e
  · simp [vblk] at e; subst e; exact hb.lt
theorem MO.nil (w : World) : MO w (.slice none 0 0) [] [] := ⟨Sl.nil _ 35 _, fun i h => by simp at h⟩
theorem MO.snoc {w w' : World} {v v' u : Value} {us : List Value} {xss : List (List Int)} {xs : List Int} (h : MO w v us xss) (hx : SInts w u xs) (hU : Upd (fun b => vblk v = some b) w w') (hO : Sl w' 35 1 v' (xss.length + 1) (us ++ [u])) : MO w' v' (us ++ [u]) (xss ++ [xs]) := by
  have hul := h.outer.len
  refine ⟨by rw [List.length_append]; exact hO, fun i hi => ?_⟩
  by_cases hi2 : i < xss.length
  · obtain ⟨y, h1, h2⟩ := h.elems i hi2
    refine ⟨y, by rw [List.getElem?_append_left (by omega)]; exact h1, ?_⟩
    rw [List.getElem_append_left hi2]
    exact h2.upS hU h.outer (by decide)
  · obtain rfl : i = xss.length := by simp at hi; omega
    refine ⟨u, by rw [List.getElem?_append_right (by omega), show xss.length - us.length = 0 by omega]; rfl, ?_⟩
    simp only [List.getElem_concat_length]
    exact hx.upS hU h.outer (by decide)
def withL (xss : List (List Int)) (s : Int) (bs : List Int) : List (List Int) := if 0 ≤ s ∧ s < xss.length then xss.set s.toNat bs else xss
theorem withL_len {xss : List (List Int)} {s : Int} {bs : List Int} : (withL xss s bs).length = xss.length := by
  unfold withL; split <;> simp
theorem withL_hit {xss : List (List Int)} {s : Int} {bs : List Int} {i : Nat} (hi : i < xss.length) (h : (i : Int) = s) : (withL xss s bs)[i]? = some bs := by
  subst h; simp [withL, hi]
theorem withL_miss {xss : List (List Int)} {s : Int} {bs : List Int} {i : Nat} (hi : i < xss.length) (h : ¬ (i : Int) = s) : (withL xss s bs)[i]? = some xss[i] := by
  unfold withL; split
  · rw [List.getElem?_set_ne (by omega)]; simp [hi]
  · simp [hi]
theorem take_snoc {α : Type} {l : List α} {i : Nat} {x : α} (h : l[i]? = some x) : l.take (i + 1) = l.take i ++ [x] := by rw [List.take_add_one, h]; rfl
theorem SInts.of0 {w : World} {v : Value} {xs : List Int} {m : Nat} (h : Sl w 3 1 v (0 + m) ([] ++ ints xs)) (hm : m = xs.length) : SInts w v xs := by
  subst hm; simpa using h
set_option maxHeartbeats 1600000 in
theorem rWith (w : World) {v vb : Value} {h s : Int} {us : List Value} {xss : List (List Int)} {bs : List Int} (hm : Mat w v us xss) (hbx : Ints w vb bs) (hl : xss.length < 1000000) (hx : ∀ xs ∈ xss, xs.length < 1000000) (hbl : bs.length < 1000000) :
    Calls Try.prog 68 #[.agg #[v, .int .i64 h], .int .i64 s, vb] w (Ret fun r w' => Ext w w' ∧ ∃ v' us', r = .agg #[v', .int .i64 h] ∧ MO w' v' us' (withL xss s bs) ∧ Fresh w v') := by
  refine calls_E (args := [.agg #[v, .int .i64 h], .int .i64 s, vb]) 43 Try.func68 rfl rfl (by simp) ?_
  have hE : Ext w w := Upd.refl w
  refine E.seq ?_
  refine E.regionP rfl ?_
  refine R.box rfl nofun ?_
  intro b3 w1 hb3 hx1 hB3
  replace hb3 := Nat.le_trans hE.size hb3
  replace hE := hE.ext hx1
  replace hB3 : Blk _ b3 54 #[v, .int .i64 h] := hB3
  refine R.alloc t54 nofun ?_
  intro b6 w2 hb6 hx2 hB6
  have ne3_6 : b3 ≠ b6 := by have := hB3.lt; omega
  replace hb6 := Nat.le_trans hE.size hb6
  replace hB3 := hB3.ext hx2
  replace hE := hE.ext hx2
  replace hB6 : Blk _ b6 54 #[.slice none 0 0, .int .i64 0] := hB6
  refine R.nil ?_
  refine E.seq ?_
  refine E.regionP rfl ?_
  refine R.fld fa54_1 rfl ?_
  refine R.loadB t3 hB3 rfl rfl rfl trivial ?_
  refine R.build (build54_1 rfl) rfl ?_
  refine R.alloc t54 nofun ?_
  intro b7 w3 hb7 hx3 hB7
  have ne3_7 : b3 ≠ b7 := by have := hB3.lt; omega
  have ne6_7 : b6 ≠ b7 := by have := hB6.lt; omega
  replace hb7 := Nat.le_trans hE.size hb7
  replace hB3 := hB3.ext hx3
  replace hB6 := hB6.ext hx3
  replace hE := hE.ext hx3
  replace hB7 : Blk _ b7 54 #[.slice none 0 0, .int .i64 0] := hB7
  refine R.storeA t54 hB7 rfl rfl rfl rfl (ones2 rfl rfl) nofun ?_
  intro w4 hU4 hs4 hN4
  replace hB3 := hB3.up hU4 (fun h => ne3_7 h)
  replace hB6 := hB6.up hU4 (fun h => ne6_7 h)
  replace hE := hE.own hU4 hb7
  replace hB7 : Blk _ b7 54 #[.slice none 0 0, .int .i64 h] := hN4
  clear hN4
  refine R.nil ?_
  refine E.seq ?_
  refine E.seq ?_
  refine E.regionP rfl ?_
  refine R.assign ?_
  refine R.nil ?_
  refine E.block ?_
  refine E.loop (fun n e wr => ∃ (i : Nat) (ov : Value) (us1 : List Value), n = xss.length - i ∧ i ≤ xss.length ∧ Ext w wr ∧ MO wr ov us1 ((withL xss s bs).take i) ∧ Fresh w ov ∧ Blk wr b3 54 #[v, .int .i64 h] ∧ Blk wr b6 54 #[.slice none 0 0, .int .i64 0] ∧ Blk wr b7 54 #[ov, .int .i64 h] ∧ Has e [(1, .int .i64 s), (2, vb), (3, .pointer (some ⟨b3, 0, none⟩)), (6, .pointer (some ⟨b6, 0, none⟩)), (7, .pointer (some ⟨b7, 0, none⟩)), (8, .int .i64 i)]) (xss.length) ?_ ?_
  · exact ⟨0, _, [], rfl, Nat.zero_le _, hE, MO.nil _, Fresh.nil _, hB3, hB6, hB7, rfl, rfl, rfl, rfl, rfl, rfl, trivial⟩
  · rintro n e wr ⟨i, ov, us1, rfl, hi, hE, hM, hf, hB3, hB6, hB7, hH⟩
    obtain ⟨e, rfl⟩ := hH.ex
    clear hH
    refine E.seq ?_
    refine E.seq ?_
    refine E.regionP rfl ?_
    refine R.move ?_
    refine R.fld fa54_0 rfl ?_
    refine R.loadB t22 hB3 rfl rfl rfl trivial ?_
    refine R.len Try.underlying22 hm.row rfl ?_
    refine R.lss rfl rfl rfl ?_
    refine R.nil ?_
    refine E.cond rfl (fun hc16 => ?_) (fun hc16 => ?_)
    · replace hc16 := dT hc16
      have hf3 : vblk ov ≠ some b3 := hB3.ne_vblk hM.outer (by decide)
      have hmin : min i (withL xss s bs).length = i := by rw [withL_len]; omega
      have hxi := hx xss[i] (List.getElem_mem _)
      refine E.skip ?_
      refine E.seq ?_
      refine E.block ?_
      refine E.seq ?_
      refine E.regionP rfl ?_
      refine R.move ?_
      refine R.move ?_
      refine R.eql rfl rfl rfl ?_
      refine R.nil ?_
      refine E.cond rfl (fun hc21 => ?_) (fun hc21 => ?_)
      · replace hc21 := dT hc21
        have hW0 := hE.size
        refine E.regionF (fun c x => x < wr.heap.size ∧ (c = false → x ≠ b7 ∧ vblk ov ≠ some x)) [23] [26] mixed rfl (by kernel_rfl) (fun _ _ h => h.1) ?_
        intro w5 hx5 hh5
        replace hM := hM.ext hx5
        replace hB3 := hB3.ext hx5
        replace hB6 := hB6.ext hx5
        replace hB7 := hB7.ext hx5
        replace hE := hE.ext hx5
        have hEs : Ext w5 w5 := Upd.refl _
        have hS0 := hx5.size
        have hSB : ∀ b, b < w5.heap.size → b < wr.heap.size ∧ (true = false → (fun x => x ≠ b7 ∧ vblk ov ≠ some x) b) := fun b hb => ⟨by rw [hh5] at hb; exact hb, nofun⟩
        have hSA : ∀ b, b < w5.heap.size → (fun x => x ≠ b7 ∧ vblk ov ≠ some x) b → b < wr.heap.size ∧ (false = false → (fun x => x ≠ b7 ∧ vblk ov ≠ some x) b) := fun b hb h => ⟨by rw [hh5] at hb; exact hb, fun _ => h⟩
        have hSO : ∀ b, b < w.heap.size → b < wr.heap.size ∧ (false = false → (fun x => x ≠ b7 ∧ vblk ov ≠ some x) b) := fun b hb => hSA b (Nat.lt_of_lt_of_le hb hE.size) (⟨fun e => by omega, fun e => by have := hf b e; omega⟩)
        have hMs := hM
        have hB3s := hB3
        have hB6s := hB6
        have hB7s := hB7
        refine G.q rfl (Nat.le_of_ble_eq_true rfl) ?_
        refine R.fld fa54_0 rfl ?_
        refine R.nil ?_
        refine G.q rfl (Nat.le_of_ble_eq_true rfl) ?_
        refine R.loadB t22 (hB7s.ext hEs) rfl rfl rfl (hSB b7 hB7s.lt) ?_
        refine R.nil ?_
        refine G.buildSlice [] Try.underlying35 t3 rfl rfl (by simp) (by simp) ?_
        intro w6 b24 K6 hx6 hb24 hn24 hK6 hk24 hS24
        have hn024 := hb24
        replace hb24 := Nat.le_trans hW0 hb24
        replace hM := hM.ext hx6
        replace hB3 := hB3.ext hx6
        replace hB6 := hB6.ext hx6
        replace hB7 := hB7.ext hx6
        replace hE := hE.ext hx6
        replace hEs := hEs.ext hx6
        refine G.q rfl (Nat.le_of_ble_eq_true rfl) ?_
        refine R.move ?_
        refine R.nil ?_
        refine G.l rfl rfl (.inl rfl) (Nat.le_of_ble_eq_true rfl) ?_
        intro w7 hx7
        replace hM := hM.ext hx7
        replace hS24 := hS24.ext hx7
        replace hB3 := hB3.ext hx7
        replace hB6 := hB6.ext hx7
        replace hB7 := hB7.ext hx7
        replace hE := hE.ext hx7
        replace hEs := hEs.ext hx7
        refine R.append (m := bs.length) Try.underlying35 Try.underlying35 t3 (by decide) rfl hS24 (hbx.ext hE) ints_one rfl rfl (by simp; omega) (by simp; omega) (fun _ b hb => ⟨G.S1_lt (fun _ _ h => h.1) (Nat.le_trans hS0 hEs.size) hb, fun e => by simp [vblk] at e; subst e; exact G.S1_new (fun _ _ h => h.1) hn024 hk24 hb⟩) ?_
        intro v26 w26 hU26 hS26 hd26
        have hy26 := hEs.trans hU26 (fun b hb h => by simp [vblk] at h; subst h; rw [hh5] at hb; omega)
        clear hS24 hd26
        replace hE := hE.trans hU26 (fun b hb h => by simp [vblk] at h; omega)
        replace hEs := hy26
        replace hM := hMs.ext hy26
        replace hB3 := hB3s.ext hy26
        replace hB6 := hB6s.ext hy26
        replace hB7 := hB7s.ext hy26
        have hR26 : SInts _ v26 bs := SInts.of0 hS26 rfl
        clear hS26
        refine R.nil ⟨hU26.size, ?_⟩
        intro K7 hK7 hN7
        replace hk24 := hK7 _ hk24
        refine G.buildSlice [v26] Try.underlying22 t35 rfl rfl (by simp [cells_one hR26.one]) (by simp) ?_
        intro w8 b27 K8 hx8 hb27 hn27 hK8 hk27 hS27
        replace hk24 := hK8 _ hk24
        have hn027 := hb27
        replace hb27 := Nat.le_trans hW0 hb27
        replace hM := hM.ext hx8
        replace hR26 := hR26.ext hx8
        replace hB3 := hB3.ext hx8
        replace hB6 := hB6.ext hx8
        replace hB7 := hB7.ext hx8
        replace hE := hE.ext hx8
        replace hEs := hEs.ext hx8
        refine G.l rfl rfl (.inr rfl) (Nat.le_of_ble_eq_true rfl) ?_
        intro w9 hx9
        replace hM := hM.ext hx9
        replace hR26 := hR26.ext hx9
        replace hS27 := hS27.ext hx9
        replace hB3 := hB3.ext hx9
        replace hB6 := hB6.ext hx9
        replace hB7 := hB7.ext hx9
        replace hE := hE.ext hx9
        replace hEs := hEs.ext hx9
        refine R.append Try.underlying22 Try.underlying22 t35 (by decide) rfl hM.outer hS27.row (by simp [cellsOf, cells_one hR26.one, hR26.one]) rfl rfl (by simp; omega) (by simp; omega) (fun _ b hb => ⟨G.S1_lt (fun _ _ h => h.1) (Nat.le_trans hS0 hEs.size) hb, fun e => G.S1_old (by have h1 := hMs.outer.blk_lt e; rw [hh5] at h1; exact h1) (fun h => (h.2 rfl).2 e) hb⟩) ?_
        intro v28 w28 hU28 hS28 hd28
        have hf28 := Fresh.app hE hf hd28
        replace hB3 := hB3.upS hU28 hM.outer (by decide)
        replace hB6 := hB6.upS hU28 hM.outer (by decide)
        replace hB7 := hB7.upS hU28 hM.outer (by decide)
        replace hE := hE.app hU28 hf
        replace hS28 : Sl w28 35 1 v28 (((withL xss s bs).take i).length + 1) (us1 ++ [v26]) := by simpa [cellsOf, cells_one hR26.one] using hS28
        replace hM := MO.snoc hM hR26 hU28 hS28
        clear hS28 hR26 hS27 hEs
        refine R.nil ⟨hU28.size, ?_⟩
        intro K9 hK9 hN9
        replace hk24 := hK9 _ hk24
        replace hk27 := hK9 _ hk27
        refine G.q rfl (Nat.le_of_ble_eq_true rfl) ?_
        refine R.fld fa54_0 rfl ?_
        refine R.nil ?_
        refine G.l rfl rfl (.inr rfl) (Nat.le_of_ble_eq_true rfl) ?_
        intro w10 hx10
        replace hM := hM.ext hx10
        replace hB3 := hB3.ext hx10
        replace hB6 := hB6.ext hx10
        replace hB7 := hB7.ext hx10
        replace hE := hE.ext hx10
        refine R.store t22 hB7 rfl rfl hM.outer.one (by simp) (fun _ h => G.S1_old (by have h1 := hB7s.lt; rw [hh5] at h1; exact h1) (fun h => (h.2 rfl).1 rfl) h) ?_
        intro w50 hU50 hs50 hN50
        replace hM := hM.upT hU50 hB7 (by decide)
        replace hB3 := hB3.up hU50 (fun h => ne3_7 h)
        replace hB6 := hB6.up hU50 (fun h => ne6_7 h)
        replace hE := hE.own hU50 hb7
        replace hB7 : Blk _ b7 54 #[v28, .int .i64 h] := hN50
        refine R.nil ⟨hU50.size, ?_⟩
        intro K10 hK10 hN10
        replace hk24 := hK10 _ hk24
        replace hk27 := hK10 _ hk27
        refine G.nil ?_
        refine E.regionP rfl ?_
        refine R.move ?_
        refine R.addN (n := 1) rfl rfl (by omega) ?_
        refine R.assign ?_
        refine R.nil ?_
        have hT := withL_hit (bs := bs) (xss := xss) (by omega) hc21
        refine ⟨xss.length - (i + 1), by omega, i + 1, v28, _, rfl, by omega, hE, by rw [take_snoc hT]; exact hM, hf28, hB3, hB6, hB7, rfl, rfl, rfl, rfl, rfl, rfl, trivial⟩
      · replace hc21 := dF hc21
        have hW0 := hE.size
        refine E.regionF (fun c x => x < wr.heap.size ∧ (c = false → x ≠ b7 ∧ vblk ov ≠ some x)) [31] [38] mixed rfl (by kernel_rfl) (fun _ _ h => h.1) ?_
        intro w11 hx11 hh11
        replace hM := hM.ext hx11
        replace hB3 := hB3.ext hx11
        replace hB6 := hB6.ext hx11
        replace hB7 := hB7.ext hx11
        replace hE := hE.ext hx11
        have hEs : Ext w11 w11 := Upd.refl _
        have hS0 := hx11.size
        have hSB : ∀ b, b < w11.heap.size → b < wr.heap.size ∧ (true = false → (fun x => x ≠ b7 ∧ vblk ov ≠ some x) b) := fun b hb => ⟨by rw [hh11] at hb; exact hb, nofun⟩
        have hSA : ∀ b, b < w11.heap.size → (fun x => x ≠ b7 ∧ vblk ov ≠ some x) b → b < wr.heap.size ∧ (false = false → (fun x => x ≠ b7 ∧ vblk ov ≠ some x) b) := fun b hb h => ⟨by rw [hh11] at hb; exact hb, fun _ => h⟩
        have hSO : ∀ b, b < w.heap.size → b < wr.heap.size ∧ (false = false → (fun x => x ≠ b7 ∧ vblk ov ≠ some x) b) := fun b hb => hSA b (Nat.lt_of_lt_of_le hb hE.size) (⟨fun e => by omega, fun e => by have := hf b e; omega⟩)
        have hMs := hM
        have hB3s := hB3
        have hB6s := hB6
        have hB7s := hB7
        refine G.q rfl (Nat.le_of_ble_eq_true rfl) ?_
        refine R.fld fa54_0 rfl ?_
        refine R.nil ?_
        refine G.q rfl (Nat.le_of_ble_eq_true rfl) ?_
        refine R.loadB t22 (hB7s.ext hEs) rfl rfl rfl (hSB b7 hB7s.lt) ?_
        refine R.nil ?_
        refine G.buildSlice [] Try.underlying35 t3 rfl rfl (by simp) (by simp) ?_
        intro w12 b32 K12 hx12 hb32 hn32 hK12 hk32 hS32
        have hn032 := hb32
        replace hb32 := Nat.le_trans hW0 hb32
        replace hM := hM.ext hx12
        replace hB3 := hB3.ext hx12
        replace hB6 := hB6.ext hx12
        replace hB7 := hB7.ext hx12
        replace hE := hE.ext hx12
        replace hEs := hEs.ext hx12
        refine G.q rfl (Nat.le_of_ble_eq_true rfl) ?_
        refine R.fld fa54_0 rfl ?_
        refine R.nil ?_
        refine G.q rfl (Nat.le_of_ble_eq_true rfl) ?_
        refine R.loadB t22 (hB3s.ext hEs) rfl rfl rfl (hSA b3 hB3s.lt (⟨ne3_7, hf3⟩)) ?_
        refine R.nil ?_
        refine G.q rfl (Nat.le_of_ble_eq_true rfl) ?_
        refine R.move ?_
        refine R.nil ?_
        refine G.q rfl (Nat.le_of_ble_eq_true rfl) ?_
        refine R.ix Try.underlying22 t35 (by decide) hm.row rfl rfl (by omega) ?_
        refine R.nil ?_
        refine G.q rfl (Nat.le_of_ble_eq_true rfl) ?_
        obtain ⟨u37, hu37, hr37⟩ := hm.get i (by omega)
        refine R.ldE t35 hm.row hE rfl hu37 rfl hSO ?_
        refine R.nil ?_
        refine G.l rfl rfl (.inl rfl) (Nat.le_of_ble_eq_true rfl) ?_
        intro w13 hx13
        replace hM := hM.ext hx13
        replace hS32 := hS32.ext hx13
        replace hB3 := hB3.ext hx13
        replace hB6 := hB6.ext hx13
        replace hB7 := hB7.ext hx13
        replace hE := hE.ext hx13
        replace hEs := hEs.ext hx13
        refine R.append (m := xss[i].length) Try.underlying35 Try.underlying35 t3 (by decide) rfl hS32 (hr37.ext hE) ints_one rfl rfl (by simp; omega) (by simp; omega) (fun _ b hb => ⟨G.S1_lt (fun _ _ h => h.1) (Nat.le_trans hS0 hEs.size) hb, fun e => by simp [vblk] at e; subst e; exact G.S1_new (fun _ _ h => h.1) hn032 hk32 hb⟩) ?_
        intro v38 w38 hU38 hS38 hd38
        have hy38 := hEs.trans hU38 (fun b hb h => by simp [vblk] at h; subst h; rw [hh11] at hb; omega)
        clear hS32 hd38
        replace hE := hE.trans hU38 (fun b hb h => by simp [vblk] at h; omega)
        replace hEs := hy38
        replace hM := hMs.ext hy38
        replace hB3 := hB3s.ext hy38
        replace hB6 := hB6s.ext hy38
        replace hB7 := hB7s.ext hy38
        have hR38 : SInts _ v38 xss[i] := SInts.of0 hS38 rfl
        clear hS38
        refine R.nil ⟨hU38.size, ?_⟩
        intro K13 hK13 hN13
        replace hk32 := hK13 _ hk32
        refine G.buildSlice [v38] Try.underlying22 t35 rfl rfl (by simp [cells_one hR38.one]) (by simp) ?_
        intro w14 b39 K14 hx14 hb39 hn39 hK14 hk39 hS39
        replace hk32 := hK14 _ hk32
        have hn039 := hb39
        replace hb39 := Nat.le_trans hW0 hb39
        replace hM := hM.ext hx14
        replace hR38 := hR38.ext hx14
        replace hB3 := hB3.ext hx14
        replace hB6 := hB6.ext hx14
        replace hB7 := hB7.ext hx14
        replace hE := hE.ext hx14
        replace hEs := hEs.ext hx14
        refine G.l rfl rfl (.inr rfl) (Nat.le_of_ble_eq_true rfl) ?_
        intro w15 hx15
        replace hM := hM.ext hx15
        replace hR38 := hR38.ext hx15
        replace hS39 := hS39.ext hx15
        replace hB3 := hB3.ext hx15
        replace hB6 := hB6.ext hx15
        replace hB7 := hB7.ext hx15
        replace hE := hE.ext hx15
        replace hEs := hEs.ext hx15
        refine R.append Try.underlying22 Try.underlying22 t35 (by decide) rfl hM.outer hS39.row (by simp [cellsOf, cells_one hR38.one, hR38.one]) rfl rfl (by simp; omega) (by simp; omega) (fun _ b hb => ⟨G.S1_lt (fun _ _ h => h.1) (Nat.le_trans hS0 hEs.size) hb, fun e => G.S1_old (by have h1 := hMs.outer.blk_lt e; rw [hh11] at h1; exact h1) (fun h => (h.2 rfl).2 e) hb⟩) ?_
        intro v40 w40 hU40 hS40 hd40
        have hf40 := Fresh.app hE hf hd40
        replace hB3 := hB3.upS hU40 hM.outer (by decide)
        replace hB6 := hB6.upS hU40 hM.outer (by decide)
        replace hB7 := hB7.upS hU40 hM.outer (by decide)
        replace hE := hE.app hU40 hf
        replace hS40 : Sl w40 35 1 v40 (((withL xss s bs).take i).length + 1) (us1 ++ [v38]) := by simpa [cellsOf, cells_one hR38.one] using hS40
        replace hM := MO.snoc hM hR38 hU40 hS40
        clear hS40 hR38 hS39 hEs
        refine R.nil ⟨hU40.size, ?_⟩
        intro K15 hK15 hN15
        replace hk32 := hK15 _ hk32
        replace hk39 := hK15 _ hk39
        refine G.q rfl (Nat.le_of_ble_eq_true rfl) ?_
        refine R.fld fa54_0 rfl ?_
        refine R.nil ?_
        refine G.l rfl rfl (.inr rfl) (Nat.le_of_ble_eq_true rfl) ?_
        intro w16 hx16
        replace hM := hM.ext hx16
        replace hB3 := hB3.ext hx16
        replace hB6 := hB6.ext hx16
        replace hB7 := hB7.ext hx16
        replace hE := hE.ext hx16
        refine R.store t22 hB7 rfl rfl hM.outer.one (by simp) (fun _ h => G.S1_old (by have h1 := hB7s.lt; rw [hh11] at h1; exact h1) (fun h => (h.2 rfl).1 rfl) h) ?_
        intro w50 hU50 hs50 hN50
        replace hM := hM.upT hU50 hB7 (by decide)
        replace hB3 := hB3.up hU50 (fun h => ne3_7 h)
        replace hB6 := hB6.up hU50 (fun h => ne6_7 h)
        replace hE := hE.own hU50 hb7
        replace hB7 : Blk _ b7 54 #[v40, .int .i64 h] := hN50
        refine R.nil ⟨hU50.size, ?_⟩
        intro K16 hK16 hN16
        replace hk32 := hK16 _ hk32
        replace hk39 := hK16 _ hk39
        refine G.nil ?_
        refine E.regionP rfl ?_
        refine R.move ?_
        refine R.addN (n := 1) rfl rfl (by omega) ?_
        refine R.assign ?_
        refine R.nil ?_
        have hT := withL_miss (bs := bs) (xss := xss) (by omega) hc21
        refine ⟨xss.length - (i + 1), by omega, i + 1, v40, _, rfl, by omega, hE, by rw [take_snoc hT]; exact hM, hf40, hB3, hB6, hB7, rfl, rfl, rfl, rfl, rfl, rfl, trivial⟩
    · replace hc16 := dF hc16
      refine E.exit ?_
      refine E.seq ?_
      refine E.regionP rfl ?_
      refine R.loadA t54 hB7 rfl rfl rfl trivial ?_
      refine R.storeA t54 hB6 rfl rfl rfl rfl (ones2 hM.outer.one rfl) nofun ?_
      intro w17 hU17 hs17 hN17
      replace hM := hM.upT hU17 hB6 (by decide)
      replace hB3 := hB3.up hU17 (fun h => ne3_6 h)
      replace hB7 := hB7.up hU17 (fun h => ne6_7 h.symm)
      replace hE := hE.own hU17 hb6
      replace hB6 : Blk _ b6 54 #[ov, .int .i64 h] := hN17
      clear hN17
      refine R.nil ?_
      refine E.ret ?_
      obtain rfl : i = xss.length := by omega
      rw [List.take_of_length_le (by rw [withL_len]; exact Nat.le_refl _)] at hM
      exact retA t54 hB6 rfl rfl rfl ⟨_, rfl, hE, _, _, rfl, hM, hf⟩
end Go.Proofs.Ytfdmndkoiheebaa

namespace Go.Proofs.Ytfdmndkoiheebaa
open Go Go.RowKit
theorem ints_of {w : World} {v : Value} {n : Nat} {cs : List Value} {xs : List Int} (h : Sl w 3 1 v n cs) (hc : cs = ints xs) (hn : n = xs.length) : Ints w v xs := by
  subst hc hn
  exact h.row
end Go.Proofs.Ytfdmndkoiheebaa

namespace Go.Proofs.Ytfdmndkoiheebaa
open Go Go.RowKit
theorem findE (w : World) {v : Value} {h b : Int} {xss : List (List Int)} (hm : ∃ us, Mat w v us xss) (hl : xss.length < 1000000) (hx : ∀ xs ∈ xss, xs.length < 1000000) {r0 : Value} (hr : findV xss b = r0) :
    Calls Try.prog 23 #[.agg #[v, .int .i64 h], .int .i64 b] w (Ret fun r w' => Ext w w' ∧ r = r0) := by
  subst hr; obtain ⟨us, hm⟩ := hm; exact find w hm hl hx
theorem rFindE (w : World) {v : Value} {h b : Int} {us : List Value} {xss : List (List Int)} (hm : Mat w v us xss) (hl : xss.length < 1000000) (hx : ∀ xs ∈ xss, xs.length < 1000000) {r0 : Value} (hr : findV xss b = r0) :
    Calls Try.prog 52 #[.agg #[v, .int .i64 h], .int .i64 b] w (Ret fun r w' => Ext w w' ∧ r = r0) := by
  subst hr; exact rFind w hm hl hx
end Go.Proofs.Ytfdmndkoiheebaa
