import Derived.Test.YtlplogplicgfiaaZ10KG
namespace Go.Proofs.Ytlplogplicgfiaa
open Go Go.RowKit
theorem Rows8.drop {w : World} {us : List Value} {l : List (List Nat)} (h : Rows8 w us l) (m : Nat) : Rows8 w (us.drop m) (l.drop m) := by
  have hl := h.len
  refine ⟨by simp [hl], fun i hi => ?_⟩
  have h1 := h.rows (m + i) (by simp at hi; omega)
  simpa only [List.getD_eq_getElem?_getD, List.getElem?_drop] using h1
theorem drop_ (w : World) {b902 : Nat} {x0 x1 vL x4 x5 x6 x7 vr : Value} {uL : List Value} {l : List (List Nat)} {xs : List Nat} {f g : Nat} (hB902 : Blk w b902 69 #[x0, x1, vL, .int .i64 ((f : Nat) : Int), x4, x5, x6, x7]) (hV : LvM w vL uL l) (hX : SU8s w vr xs) (hg : f ≤ g) (hg2 : g ≤ f + l.length) (hf : f ≤ 9000000000) (hl : l.length ≤ 100000) :
    Calls Try.prog 50 #[.pointer (some ⟨b902, 0, none⟩), vr, .int .i64 (g : Nat)] w (Ret fun _ w' => Upd (one b902) w w' ∧ ∃ v us, Blk w' b902 69 #[x0, x1, v, .int .i64 ((g : Nat) : Int), x4, x5, x6, x7] ∧ LvM w' v us (l.drop (g - f) ++ [xs])) := by
  have hVl := hV.sl
  have hVr := hV.rows
  have hvq : ∃ a c, vr = .slice a xs.length c := by obtain ⟨a, c, h, _⟩ := hX; exact ⟨a, c, h⟩
  obtain ⟨qa, qc, hvq⟩ := hvq
  have hcq : cellsOf [vr] = [vr] := by rw [hvq]; rfl
  refine calls_E (args := [.pointer (some ⟨b902, 0, none⟩), vr, .int .i64 ((g : Nat) : Int)]) 29 Try.func50 rfl rfl (by simp) ?_
  have hE : Upd (one b902) w w := Upd.refl w
  refine E.seq ?_
  have hW0 := hE.size
  refine E.regionF (fun c x => x < w.heap.size ∧ (c = false → x ≠ b902)) [11, 16] [19] mixed rfl (by kernel_rfl) (fun _ _ h => h.1) ?_
  intro w1 hx1 hh1
  replace hVl := hVl.ext hx1
  replace hVr := hVr.ext hx1
  replace hX := hX.ext hx1
  replace hB902 := hB902.ext hx1
  replace hE := hE.ext hx1
  have hEs : Ext w1 w1 := Upd.refl _
  have hS0 := hx1.size
  have hSB : ∀ b, b < w1.heap.size → b < w.heap.size ∧ (true = false → (fun x => x ≠ b902) b) := fun b hb => ⟨by rw [hh1] at hb; exact hb, nofun⟩
  have hSA : ∀ b, b < w1.heap.size → (fun x => x ≠ b902) b → b < w.heap.size ∧ (false = false → (fun x => x ≠ b902) b) := fun b hb h => ⟨by rw [hh1] at hb; exact hb, fun _ => h⟩
  have hVls := hVl
  have hVrs := hVr
  have hXs := hX
  have hB902s := hB902
  refine G.q rfl (Nat.le_of_ble_eq_true rfl) ?_
  refine R.move ?_
  refine R.nil ?_
  refine G.buildSlice [] Try.underlying67 t55 rfl rfl (by simp [Value.cells]) (by simp) ?_
  intro w2 b7 K2 hx2 hb7 hn7 hK2 hk7 hS7
  have hn07 := hb7
  replace hb7 := Nat.le_trans hW0 hb7
  replace hVl := hVl.ext hx2
  replace hVr := hVr.ext hx2
  replace hX := hX.ext hx2
  replace hB902 := hB902.ext hx2
  replace hE := hE.ext hx2
  replace hEs := hEs.ext hx2
  refine G.q rfl (Nat.le_of_ble_eq_true rfl) ?_
  refine R.move ?_
  refine R.nil ?_
  refine G.q rfl (Nat.le_of_ble_eq_true rfl) ?_
  refine R.nilCheck rfl ?_
  refine R.nil ?_
  refine G.q rfl (Nat.le_of_ble_eq_true rfl) ?_
  refine R.fld fa69_2 rfl ?_
  refine R.nil ?_
  refine G.q rfl (Nat.le_of_ble_eq_true rfl) ?_
  refine R.loadB t67 hB902 rfl rfl rfl (hSB b902 hB902s.lt) ?_
  refine R.nil ?_
  refine G.q rfl (Nat.le_of_ble_eq_true rfl) ?_
  refine R.move ?_
  refine R.nil ?_
  refine G.q rfl (Nat.le_of_ble_eq_true rfl) ?_
  refine R.move ?_
  refine R.nil ?_
  refine G.q rfl (Nat.le_of_ble_eq_true rfl) ?_
  refine R.nilCheck rfl ?_
  refine R.nil ?_
  refine G.q rfl (Nat.le_of_ble_eq_true rfl) ?_
  refine R.fld fa69_3 rfl ?_
  refine R.nil ?_
  refine G.q rfl (Nat.le_of_ble_eq_true rfl) ?_
  refine R.loadB t3 hB902 rfl rfl rfl (hSB b902 hB902s.lt) ?_
  refine R.nil ?_
  refine G.q rfl (Nat.le_of_ble_eq_true rfl) ?_
  refine R.subN (m := g) (n := f) rfl rfl (by omega) (by omega) ?_
  refine R.nil ?_
  refine G.q rfl (Nat.le_of_ble_eq_true rfl) ?_
  have hsl9 := hVl
  obtain ⟨ar, cr, hvr, hcr, _, hcase⟩ := hsl9
  refine R.slc (l := g - f) (r := l.length) Try.underlying67 t55 rfl hvr ⟨_, rfl⟩ rfl (by omega) (by omega) ?_
  have hsl : Sl w2 55 1 (cut 1 vL (g - f) l.length) (l.drop (g - f)).length (uL.drop (g - f)) := by
    have h1 := hVl.cut (l := g - f) (r := l.length) (by omega) (Nat.le_refl _)
    have hrl := hVr.len
    rw [Nat.mul_one, Nat.mul_one, List.take_of_length_le (by rw [List.length_drop]; omega)] at h1
    rw [List.length_drop]; exact h1
  refine R.nil ?_
  refine G.l rfl rfl (.inl rfl) (Nat.le_of_ble_eq_true rfl) ?_
  intro w3 hx3
  replace hVl := hVl.ext hx3
  replace hVr := hVr.ext hx3
  replace hX := hX.ext hx3
  replace hS7 := hS7.ext hx3
  replace hsl := hsl.ext hx3
  replace hB902 := hB902.ext hx3
  replace hE := hE.ext hx3
  replace hEs := hEs.ext hx3
  refine R.append Try.underlying67 Try.underlying67 t55 (by decide) rfl hS7 hsl.row (fun x hx => hVr.one x (List.mem_of_mem_drop hx)) rfl rfl (by simp; omega) (by simp; omega) (fun _ b hb => ⟨G.S1_lt (fun _ _ h => h.1) (Nat.le_trans hS0 hEs.size) hb, fun e => by have e1 : b7 = b := Option.some.inj e; rw [← e1] at hb; exact G.S1_new (fun _ _ h => h.1) hn07 hk7 hb⟩) ?_
  intro v19 w4 hU4 hS19 hd4
  have hF19 := Fresh.app hE (Fresh.blk hb7) hd4
  replace hVr := hVr.upS hU4 hS7 (by decide)
  replace hX := hX.upS hU4 hS7 (by decide)
  replace hB902 := hB902.upS hU4 hS7 (by decide)
  replace hE := hE.app hU4 (Fresh.blk hb7)
  replace hEs := hEs.trans hU4 (fun c hc h => by have h1 := (show b7 = c from Option.some.inj h); rw [hh1] at hc; omega)
  refine R.nil ⟨hU4.size, ?_⟩
  intro K3 hK3 hN3
  replace hk7 := hK3 _ hk7
  have hkv19 : ∀ b, vblk v19 = some b → w.heap.size ≤ b ∧ K3 b := fun b hb => by
    refine ⟨hF19 b hb, ?_⟩
    rcases hd4 with ⟨e, _⟩ | ⟨c, e, h1, _⟩
    · rw [e] at hb
      have e1 : b7 = b := Option.some.inj hb
      subst e1; exact hk7
    · rw [e] at hb
      have e1 : c = b := Option.some.inj hb
      subst e1; exact hN3 _ h1 (hS19.lt _ e)
  refine G.q rfl (Nat.le_of_ble_eq_true rfl) ?_
  refine R.move ?_
  refine R.nil ?_
  refine G.buildSlice [vr] Try.underlying67 t55 rfl rfl (fun v hv => by rw [List.mem_singleton.1 hv, hvq]; rfl) (by simp) ?_
  intro w5 b21 K5 hx5 hb21 hn21 hK5 hk21 hS21
  replace hk7 := hK5 _ hk7
  replace hkv19 := fun b e => And.intro (hkv19 b e).1 (hK5 _ (hkv19 b e).2)
  have hn021 := hb21
  replace hb21 := Nat.le_trans hW0 hb21
  replace hVr := hVr.ext hx5
  replace hX := hX.ext hx5
  replace hS19 := hS19.ext hx5
  replace hB902 := hB902.ext hx5
  replace hE := hE.ext hx5
  replace hEs := hEs.ext hx5
  refine G.l rfl rfl (.inr rfl) (Nat.le_of_ble_eq_true rfl) ?_
  intro w6 hx6
  replace hVr := hVr.ext hx6
  replace hX := hX.ext hx6
  replace hS19 := hS19.ext hx6
  replace hS21 := hS21.ext hx6
  replace hB902 := hB902.ext hx6
  replace hE := hE.ext hx6
  replace hEs := hEs.ext hx6
  refine R.append Try.underlying67 Try.underlying67 t55 (by decide) rfl hS19 hS21.row (fun x hx => by rw [hcq] at hx; rw [List.mem_singleton.1 hx]; exact hX.one) rfl rfl (by simp; omega) (by simp; omega) (fun _ b hb => ⟨G.S1_lt (fun _ _ h => h.1) (Nat.le_trans hS0 hEs.size) hb, fun e => G.S1_new (fun _ _ h => h.1) (hkv19 b e).1 (hkv19 b e).2 hb⟩) ?_
  intro v22 w7 hU7 hS22 hd7
  have hF22 := Fresh.app hE hF19 hd7
  replace hVr := hVr.upS hU7 hS19 (by decide)
  replace hX := hX.upS hU7 hS19 (by decide)
  replace hB902 := hB902.upS hU7 hS19 (by decide)
  replace hE := hE.app hU7 hF19
  replace hEs := hEs.trans hU7 (fun c hc h => by have h1 := (fun c h => (hkv19 c h).1) c h; rw [hh1] at hc; omega)
  refine R.nil ⟨hU7.size, ?_⟩
  intro K6 hK6 hN6
  replace hk7 := hK6 _ hk7
  replace hk21 := hK6 _ hk21
  replace hkv19 := fun b e => And.intro (hkv19 b e).1 (hK6 _ (hkv19 b e).2)
  refine G.q rfl (Nat.le_of_ble_eq_true rfl) ?_
  refine R.nilCheck rfl ?_
  refine R.nil ?_
  refine G.q rfl (Nat.le_of_ble_eq_true rfl) ?_
  refine R.fld fa69_2 rfl ?_
  refine R.nil ?_
  refine G.l rfl rfl (.inr rfl) (Nat.le_of_ble_eq_true rfl) ?_
  intro w8 hx8
  replace hVr := hVr.ext hx8
  replace hX := hX.ext hx8
  replace hS22 := hS22.ext hx8
  replace hB902 := hB902.ext hx8
  replace hE := hE.ext hx8
  replace hEs := hEs.ext hx8
  refine R.store t67 hB902 rfl rfl (hS22.one) (by simp) (fun _ h => h.elim (fun h => h.2 rfl rfl) (fun h => h.elim (fun h => absurd h.1 (by decide)) (fun h => by have h1 := hB902s.lt; rw [hh1] at h1; have := h.1; omega))) ?_
  intro w9 hU9 hs9 hN9
  replace hVr := hVr.upT hU9 hB902 (by decide)
  replace hX := hX.upT hU9 hB902 (by decide)
  replace hS22 := hS22.upT hU9 hB902 (by decide)
  replace hE := hE.trans hU9 (fun x _ h => h)
  replace hB902 : Blk _ b902 69 #[x0, x1, v22, .int .i64 ((f : Nat) : Int), x4, x5, x6, x7] := hN9
  clear hN9
  refine R.nil ⟨hU9.size, ?_⟩
  intro K8 hK8 hN8
  replace hk7 := hK8 _ hk7
  replace hk21 := hK8 _ hk21
  replace hkv19 := fun b e => And.intro (hkv19 b e).1 (hK8 _ (hkv19 b e).2)
  refine G.nil ?_
  refine E.forget [(0, .pointer (some ⟨b902, 0, none⟩)), (2, .int .i64 ((g : Nat) : Int))] ⟨rfl, rfl, trivial⟩ (fun e => ?_)
  refine E.regionP rfl ?_
  refine R.move ?_
  refine R.move ?_
  refine R.nilCheck rfl ?_
  refine R.fld fa69_3 rfl ?_
  refine R.store t3 hB902 rfl rfl (rfl) (by simp) nofun ?_
  intro w10 hU10 hs10 hN10
  replace hVr := hVr.upT hU10 hB902 (by decide)
  replace hX := hX.upT hU10 hB902 (by decide)
  replace hS22 := hS22.upT hU10 hB902 (by decide)
  replace hE := hE.trans hU10 (fun x _ h => h)
  replace hB902 : Blk _ b902 69 #[x0, x1, v22, .int .i64 ((g : Nat) : Int), x4, x5, x6, x7] := hN10
  clear hN10
  refine R.nil ?_
  have hsl1 : Sl w10 55 1 v22 (l.drop (g - f) ++ [xs]).length (uL.drop (g - f) ++ [vr]) := by
    rw [hcq] at hS22
    rw [List.length_append]
    simpa [cellsOf] using hS22
  exact end0 rfl ⟨_, rfl, hE, _, _, hB902, hsl1, (hVr.drop (g - f)).snoc hX⟩
end Go.Proofs.Ytlplogplicgfiaa
