import Derived.Test.YtfdmndkoiheebaaZ16J12
import Derived.Test.YtfdmndkoiheebaaZ16N1
namespace Go.Proofs.Ytfdmndkoiheebaa
open Go Go.RowKit
def YM (w wr : World) (v : Value) (xss : List (List Int)) : Prop := (∃ us, Mat w v us xss) ∨ ∃ us, MO wr v us xss
theorem YM.ext {w wr w' : World} {v : Value} {xss : List (List Int)} (h : YM w wr v xss) (u : Ext wr w') : YM w w' v xss := by
  rcases h with h | ⟨us, h⟩
  · exact .inl h
  · exact .inr ⟨us, h.ext u⟩
theorem YM.upT {w wr w' : World} {v : Value} {xss : List (List Int)} {b : Nat} {cs : Array Value} {ty : TypeId} (h : YM w wr v xss) (u : Upd (Ytfdmndkoiheebaa.one b) wr w') (hb : Blk wr b ty cs) (hne : 35 ≠ ty ∧ 3 ≠ ty) : YM w w' v xss := by
  rcases h with h | ⟨us, h⟩
  · exact .inl h
  · exact .inr ⟨us, h.upT u hb hne⟩
theorem YM.mat {w wr : World} {v : Value} {xss : List (List Int)} (h : YM w wr v xss) (hE : Ext w wr) : ∃ us, Mat wr v us xss := by
  rcases h with ⟨us, h⟩ | ⟨us, h⟩
  · exact ⟨us, h.ext hE⟩
  · exact ⟨us, h.mat⟩
theorem stepsC_at2 {ss : List (Int × Int × Int)} {i : Nat} (h : i < ss.length) : (stepsC ss)[i * 3 + 2]? = some (.int .i64 ss[i].2.2) := by
  have h1 := congrArg (fun l => l[2]?) (steps_take h)
  simpa [List.getElem?_take, List.getElem?_drop] using h1
theorem rDone0 (w : World) {v : Value} {H nx : Nat} {us : List Value} {xss : List (List Int)} {ord : List Int} {s : Int × Int × Int} (hm : Mat w v us xss) (hR : RightP xss (H : Int)) (hd : doL xss H ord nx s = none) :
    Calls Try.prog 98 #[.agg #[v, .int .i64 H], .int .i64 (ord.getD nx 0), .agg #[.int .i64 s.1, .int .i64 s.2.1, .int .i64 s.2.2]] w (Ret fun r w' => Ext w w' ∧ ∃ u h, r = .tuple #[.agg #[u, .int .i64 h], .bool false] ∧ u.oneCell' = true) :=
  (rDone w (ord := ord) (nx := nx) (b := s.1) (f := s.2.1) (t := s.2.2) hm hR).mono fun _ _ ⟨r, h1, h2, u, us, h, h3, h4, _⟩ => ⟨r, h1, h2, u, h, by rw [h3]; have e : doL xss H ord nx (s.1, s.2.1, s.2.2) = none := hd; rw [e]; rfl, h4⟩
theorem rDone1 (w : World) {v : Value} {H nx n' : Nat} {us : List Value} {xss ys : List (List Int)} {ord : List Int} {s : Int × Int × Int} (hm : Mat w v us xss) (hR : RightP xss (H : Int)) (hd : doL xss H ord nx s = some (ys, n')) :
    Calls Try.prog 98 #[.agg #[v, .int .i64 H], .int .i64 (ord.getD nx 0), .agg #[.int .i64 s.1, .int .i64 s.2.1, .int .i64 s.2.2]] w (Ret fun r w' => Ext w w' ∧ ∃ u us, r = .tuple #[.agg #[u, .int .i64 H], .bool true] ∧ MO w' u us ys) :=
  (rDone w (ord := ord) (nx := nx) (b := s.1) (f := s.2.1) (t := s.2.2) hm hR).mono fun _ _ ⟨r, h1, h2, u, us, h, h3, h4, h5⟩ => by
    have e : doL xss H ord nx (s.1, s.2.1, s.2.2) = some (ys, n') := hd
    obtain ⟨rfl, q⟩ := h5 ys n' e
    exact ⟨r, h1, h2, u, us, by rw [h3, e]; rfl, q⟩
set_option maxHeartbeats 1600000 in
theorem rCheck (w : World) {v vo vss : Value} {h : Int} {us : List Value} {xss : List (List Int)} {ord : List Int} {ss : List (Int × Int × Int)} (hm : Mat w v us xss) (ho : Ints w vo ord) (hss : Steps w vss ss) (hl : xss.length < 100000) (hx : ∀ xs ∈ xss, xs.length ≤ 10) (hol : ord.length < 1000000) (hsl : ss.length < 1000000000) :
    Calls Try.prog 82 #[.agg #[v, .int .i64 h], vo, vss] w (Ret fun r w' => Ext w w' ∧ r = .tuple #[.int .i64 ((checkR xss h ord ss).1 : Nat), .int .i64 (checkR xss h ord ss).2]) := by
  cases hb : beginB xss h ord
  rotate_left
  · obtain ⟨hRP, hOP⟩ := beginB_right hb
    obtain ⟨H, rfl, hH0, hH6, hl30, hl1, hxH⟩ := rightB_nat hRP.b
    have hCR : checkR xss H ord ss = if 2000 < ss.length then (0, 5) else goL H ord xss 0 ss 0 0 := by simp [checkR, hb]
    refine calls_E (args := [.agg #[v, .int .i64 H], vo, vss]) 66 Try.func82 rfl rfl (by simp) ?_
    have hE : Ext w w := Upd.refl w
    refine E.seq ?_
    refine E.regionP rfl ?_
    refine R.box rfl nofun ?_
    intro b3 w1 hb3 hx1 hB3
    replace hb3 := Nat.le_trans hE.size hb3
    replace hE := hE.ext hx1
    replace hB3 : Blk _ b3 54 #[v, .int .i64 H] := hB3
    refine R.assign ?_
    refine R.assign ?_
    refine R.nil ?_
    refine E.seq ?_
    refine E.seq ?_
    refine E.regionP rfl ?_
    refine R.loadA t54 hB3 rfl rfl rfl trivial ?_
    refine R.move ?_
    refine R.callE2 ent88 (rRightO _ (hm.ext hE) (ho.ext hE) hl hx (by omega)) rfl rfl nofun ?_
    rintro v16 w2 hx2 rfl
    rw [hb]
    replace hB3 := hB3.ext hx2
    replace hE := hE.ext hx2
    refine R.not rfl ?_
    refine R.nil ?_
    refine E.condF rfl ?_
    refine E.skip ?_
    refine E.seq ?_
    refine E.seq ?_
    refine E.regionP rfl ?_
    refine R.move ?_
    refine R.len Try.underlying78 hss rfl ?_
    refine R.gtr rfl rfl rfl ?_
    refine R.nil ?_
    refine E.cond rfl (fun hc20 => ?_) (fun hc20 => ?_)
    · replace hc20 := dT hc20
      refine E.seq ?_
      refine E.regionP rfl ?_
      refine R.assign ?_
      refine R.assign ?_
      refine R.nil ?_
      refine E.ret ?_
      exact ret2 (.int .i64 0) (.int .i64 5) rfl rfl rfl ⟨_, rfl, hE, by rw [hCR, if_pos (by omega)]; rfl⟩
    · replace hc20 := dF hc20
      refine E.skip ?_
      refine E.seq ?_
      refine E.regionP rfl ?_
      refine R.assign ?_
      refine R.assign ?_
      refine R.nil ?_
      refine E.seq ?_
      refine E.seq ?_
      refine E.regionP rfl ?_
      refine R.assign ?_
      refine R.nil ?_
      refine E.block ?_
      refine E.loop (fun n e wr => ∃ (i c nx : Nat) (ys : List (List Int)) (ov : Value), n = ss.length - i ∧ i ≤ ss.length ∧ c ≤ i ∧ goL H ord ys nx (ss.drop i) c i = goL H ord xss 0 ss 0 0 ∧ RightP ys (H : Int) ∧ nx ≤ ord.length ∧ Ext w wr ∧ YM w wr ov ys ∧ Blk wr b3 54 #[ov, .int .i64 H] ∧ Has e [(1, vo), (2, vss), (3, .pointer (some ⟨b3, 0, none⟩)), (8, .int .i64 (nx : Nat)), (9, .int .i64 (c : Nat)), (10, .int .i64 (i : Nat))]) (ss.length) ?_ ?_
      · exact ⟨0, 0, 0, xss, v, rfl, Nat.zero_le _, Nat.le_refl _, by simp, hRP, Nat.zero_le _, hE, .inl ⟨us, hm⟩, hB3, rfl, rfl, rfl, rfl, rfl, rfl, trivial⟩
      · rintro n e wr ⟨i, c, nx, ys, ov, rfl, hi, hci, hq, hR, hnx, hE, hY, hB3, hH⟩
        obtain ⟨e, rfl⟩ := hH.ex
        clear hH
        refine E.seq ?_
        refine E.seq ?_
        refine E.regionP rfl ?_
        refine R.move ?_
        refine R.move ?_
        refine R.len Try.underlying78 hss rfl ?_
        refine R.lss rfl rfl rfl ?_
        refine R.nil ?_
        refine E.cond rfl (fun hc24 => ?_) (fun hc24 => ?_)
        · replace hc24 := dT hc24
          have hi1 : i < ss.length := by omega
          refine E.skip ?_
          refine E.seq ?_
          refine E.block ?_
          refine E.seq ?_
          refine E.regionP rfl ?_
          refine R.assign ?_
          refine R.nil ?_
          refine E.seq ?_
          refine E.seq ?_
          refine E.regionP rfl ?_
          refine R.move ?_
          refine R.move ?_
          refine R.len Try.underlying35 ho rfl ?_
          refine R.lss rfl rfl rfl ?_
          refine R.nil ?_
          refine E.cutM (fun e wr => Ext w wr ∧ YM w wr ov ys ∧ Blk wr b3 54 #[ov, .int .i64 H] ∧ Has e [(1, vo), (2, vss), (3, .pointer (some ⟨b3, 0, none⟩)), (8, .int .i64 (nx : Nat)), (9, .int .i64 (c : Nat)), (10, .int .i64 (i : Nat)), (11, .int .i64 (ord.getD nx 0))]) ?_ ?_
          · refine E.cond rfl (fun hc30 => ?_) (fun hc30 => ?_)
            · replace hc30 := dT hc30
              have hn1 : nx < ord.length := by omega
              refine E.regionP rfl ?_
              refine R.move ?_
              refine R.move ?_
              refine R.ix (m := nx) Try.underlying35 t3 (by decide) ho rfl rfl (by omega) ?_
              refine R.ld (j := nx) t3 (ho.ext hE) rfl (int_at (by omega)) rfl (fun _ _ => trivial) ?_
              refine R.assign ?_
              refine R.nil ?_
              exact ⟨hE, hY, hB3, rfl, rfl, rfl, rfl, rfl, rfl, by rw [getD_at hn1]; rfl, trivial⟩
            · replace hc30 := dF hc30
              refine E.skip ?_
              exact ⟨hE, hY, hB3, rfl, rfl, rfl, rfl, rfl, rfl, by rw [show ord.getD nx 0 = 0 by simp [show ord.length ≤ nx by omega]]; rfl, trivial⟩
          · rintro e wr ⟨hE, hY, hB3, hH⟩
            obtain ⟨e, rfl⟩ := hH.ex
            clear hH
            refine E.seq ?_
            rcases hd : doL ys H ord nx ss[i] with _ | ⟨ys1, n1⟩
            · have hW0 := hE.size
              refine E.regionF (fun c x => x < wr.heap.size ∧ (c = false → True)) [] [42] mixed rfl (by kernel_rfl) (fun _ _ h => h.1) ?_
              intro w3 hx3 hh3
              replace hY := hY.ext hx3
              replace hB3 := hB3.ext hx3
              replace hE := hE.ext hx3
              have hEs : Ext w3 w3 := Upd.refl _
              have hS0 := hx3.size
              have hSB : ∀ b, b < w3.heap.size → b < wr.heap.size ∧ (true = false → (fun x => True) b) := fun b hb => ⟨by rw [hh3] at hb; exact hb, nofun⟩
              have hSA : ∀ b, b < w3.heap.size → (fun x => True) b → b < wr.heap.size ∧ (false = false → (fun x => True) b) := fun b hb h => ⟨by rw [hh3] at hb; exact hb, fun _ => h⟩
              have hSO : ∀ b, b < w.heap.size → b < wr.heap.size ∧ (false = false → (fun x => True) b) := fun b hb => hSA b (Nat.lt_of_lt_of_le hb hE.size) (trivial)
              have hYs := hY
              have hB3s := hB3
              refine G.q rfl (Nat.le_of_ble_eq_true rfl) ?_
              refine R.loadA t54 hB3 rfl rfl rfl (hSA b3 hB3s.lt (trivial)) ?_
              refine R.nil ?_
              refine G.q rfl (Nat.le_of_ble_eq_true rfl) ?_
              refine R.move ?_
              refine R.nil ?_
              refine G.q rfl (Nat.le_of_ble_eq_true rfl) ?_
              refine R.move ?_
              refine R.nil ?_
              refine G.q rfl (Nat.le_of_ble_eq_true rfl) ?_
              refine R.move ?_
              refine R.nil ?_
              refine G.q rfl (Nat.le_of_ble_eq_true rfl) ?_
              refine R.ix Try.underlying78 t117 (by decide) hss rfl rfl (by omega) ?_
              refine R.nil ?_
              refine G.q rfl (Nat.le_of_ble_eq_true rfl) ?_
              refine R.ldS t117 hss hE hi1 rfl rfl hSO ?_
              refine R.nil ?_
              refine G.l rfl rfl (.inl rfl) (Nat.le_of_ble_eq_true rfl) ?_
              intro w4 hx4
              replace hY := hY.ext hx4
              replace hB3 := hB3.ext hx4
              replace hE := hE.ext hx4
              replace hEs := hEs.ext hx4
              refine R.callE3 ent98 (rDone0 _ (s := ss[i]) (hY.mat hE).choose_spec hR hd) rfl rfl rfl (fun _ _ hb => G.S1_lt (fun _ _ h => h.1) (Nat.le_trans hS0 hEs.size) hb) ?_
              rintro v42 w5 hx5 ⟨u42, h42, rfl, ho42⟩
              replace hY := hY.ext hx5
              replace hB3 := hB3.ext hx5
              replace hE := hE.ext hx5
              replace hEs := hEs.ext hx5
              refine R.nil ⟨hx5.size, ?_⟩
              intro K4 hK4 hN4
              refine G.q rfl (Nat.le_of_ble_eq_true rfl) ?_
              refine R.move ?_
              refine R.nil ?_
              refine G.q rfl (Nat.le_of_ble_eq_true rfl) ?_
              refine R.extract rfl rfl ?_
              refine R.nil ?_
              refine G.q rfl (Nat.le_of_ble_eq_true rfl) ?_
              refine R.extract rfl rfl ?_
              refine R.nil ?_
              refine G.alloc t54 ?_
              intro w6 b12 K6 hx6 hb12 hn12 hK6 hk12 hB12
              have ne3_12 : b3 ≠ b12 := by have h1 := hB3s.lt; rw [hh3] at h1; omega
              have hn012 := hb12
              replace hb12 := Nat.le_trans hW0 hb12
              replace hY := hY.ext hx6
              replace hB3 := hB3.ext hx6
              replace hE := hE.ext hx6
              replace hEs := hEs.ext hx6
              replace hB12 : Blk _ b12 54 #[.slice none 0 0, .int .i64 0] := hB12
              refine G.l rfl rfl (.inr rfl) (Nat.le_of_ble_eq_true rfl) ?_
              intro w7 hx7
              replace hY := hY.ext hx7
              replace hB3 := hB3.ext hx7
              replace hB12 := hB12.ext hx7
              replace hE := hE.ext hx7
              replace hEs := hEs.ext hx7
              refine R.storeA t54 hB12 rfl rfl rfl rfl ((ones2 ho42 rfl)) (fun _ h => G.S1_new (fun _ _ h => h.1) hn012 hk12 h) ?_
              intro w8 hU8 hs8 hN8
              replace hEs := hEs.trans hU8 (fun c hc h => by have h1 : c = b12 := h; rw [hh3] at hc; omega)
              replace hY := hY.upT hU8 hB12 (by decide)
              replace hB3 := hB3.up hU8 (fun h => ne3_12 h)
              replace hE := hE.own hU8 hb12
              replace hB12 : Blk _ b12 54 #[u42, .int .i64 h42] := hN8
              clear hN8
              refine R.nil ⟨hU8.size, ?_⟩
              intro K7 hK7 hN7
              replace hk12 := hK7 _ hk12
              refine G.q rfl (Nat.le_of_ble_eq_true rfl) ?_
              refine R.assign ?_
              refine R.nil ?_
              refine G.nil ?_
              refine E.seq ?_
              refine E.seq ?_
              refine E.regionP rfl ?_
              refine R.move ?_
              refine R.not rfl ?_
              refine R.nil ?_
              refine E.condT rfl ?_
              refine E.seq ?_
              refine E.regionP rfl ?_
              refine R.move ?_
              refine R.assign ?_
              refine R.assign ?_
              refine R.nil ?_
              refine E.ret ?_
              exact ret2 (.int .i64 (i : Nat)) (.int .i64 350) rfl rfl rfl ⟨_, rfl, hE, by rw [hCR, if_neg (by omega), ← hq, goL_none hi1 hd]⟩
            · have hW0 := hE.size
              refine E.regionF (fun c x => x < wr.heap.size ∧ (c = false → True)) [] [42] mixed rfl (by kernel_rfl) (fun _ _ h => h.1) ?_
              intro w9 hx9 hh9
              replace hY := hY.ext hx9
              replace hB3 := hB3.ext hx9
              replace hE := hE.ext hx9
              have hEs : Ext w9 w9 := Upd.refl _
              have hS0 := hx9.size
              have hSB : ∀ b, b < w9.heap.size → b < wr.heap.size ∧ (true = false → (fun x => True) b) := fun b hb => ⟨by rw [hh9] at hb; exact hb, nofun⟩
              have hSA : ∀ b, b < w9.heap.size → (fun x => True) b → b < wr.heap.size ∧ (false = false → (fun x => True) b) := fun b hb h => ⟨by rw [hh9] at hb; exact hb, fun _ => h⟩
              have hSO : ∀ b, b < w.heap.size → b < wr.heap.size ∧ (false = false → (fun x => True) b) := fun b hb => hSA b (Nat.lt_of_lt_of_le hb hE.size) (trivial)
              have hYs := hY
              have hB3s := hB3
              refine G.q rfl (Nat.le_of_ble_eq_true rfl) ?_
              refine R.loadA t54 hB3 rfl rfl rfl (hSA b3 hB3s.lt (trivial)) ?_
              refine R.nil ?_
              refine G.q rfl (Nat.le_of_ble_eq_true rfl) ?_
              refine R.move ?_
              refine R.nil ?_
              refine G.q rfl (Nat.le_of_ble_eq_true rfl) ?_
              refine R.move ?_
              refine R.nil ?_
              refine G.q rfl (Nat.le_of_ble_eq_true rfl) ?_
              refine R.move ?_
              refine R.nil ?_
              refine G.q rfl (Nat.le_of_ble_eq_true rfl) ?_
              refine R.ix Try.underlying78 t117 (by decide) hss rfl rfl (by omega) ?_
              refine R.nil ?_
              refine G.q rfl (Nat.le_of_ble_eq_true rfl) ?_
              refine R.ldS t117 hss hE hi1 rfl rfl hSO ?_
              refine R.nil ?_
              refine G.l rfl rfl (.inl rfl) (Nat.le_of_ble_eq_true rfl) ?_
              intro w10 hx10
              replace hY := hY.ext hx10
              replace hB3 := hB3.ext hx10
              replace hE := hE.ext hx10
              replace hEs := hEs.ext hx10
              refine R.callE3 ent98 (rDone1 _ (s := ss[i]) (hY.mat hE).choose_spec hR hd) rfl rfl rfl (fun _ _ hb => G.S1_lt (fun _ _ h => h.1) (Nat.le_trans hS0 hEs.size) hb) ?_
              rintro v42 w11 hx11 ⟨u42, us42, rfl, hM42⟩
              replace hY := hY.ext hx11
              replace hB3 := hB3.ext hx11
              replace hE := hE.ext hx11
              replace hEs := hEs.ext hx11
              refine R.nil ⟨hx11.size, ?_⟩
              intro K10 hK10 hN10
              refine G.q rfl (Nat.le_of_ble_eq_true rfl) ?_
              refine R.move ?_
              refine R.nil ?_
              refine G.q rfl (Nat.le_of_ble_eq_true rfl) ?_
              refine R.extract rfl rfl ?_
              refine R.nil ?_
              refine G.q rfl (Nat.le_of_ble_eq_true rfl) ?_
              refine R.extract rfl rfl ?_
              refine R.nil ?_
              refine G.alloc t54 ?_
              intro w12 b12 K12 hx12 hb12 hn12 hK12 hk12 hB12
              have ne3_12 : b3 ≠ b12 := by have h1 := hB3s.lt; rw [hh9] at h1; omega
              have hn012 := hb12
              replace hb12 := Nat.le_trans hW0 hb12
              replace hY := hY.ext hx12
              replace hM42 := hM42.ext hx12
              replace hB3 := hB3.ext hx12
              replace hE := hE.ext hx12
              replace hEs := hEs.ext hx12
              replace hB12 : Blk _ b12 54 #[.slice none 0 0, .int .i64 0] := hB12
              refine G.l rfl rfl (.inr rfl) (Nat.le_of_ble_eq_true rfl) ?_
              intro w13 hx13
              replace hY := hY.ext hx13
              replace hM42 := hM42.ext hx13
              replace hB3 := hB3.ext hx13
              replace hB12 := hB12.ext hx13
              replace hE := hE.ext hx13
              replace hEs := hEs.ext hx13
              refine R.storeA t54 hB12 rfl rfl rfl rfl (ones2 hM42.row.one rfl) (fun _ h => G.S1_new (fun _ _ h => h.1) hn012 hk12 h) ?_
              intro w14 hU14 hs14 hN14
              replace hEs := hEs.trans hU14 (fun c hc h => by have h1 : c = b12 := h; rw [hh9] at hc; omega)
              replace hY := hY.upT hU14 hB12 (by decide)
              replace hM42 := hM42.upT hU14 hB12 (by decide)
              replace hB3 := hB3.up hU14 (fun h => ne3_12 h)
              replace hE := hE.own hU14 hb12
              replace hB12 : Blk _ b12 54 #[u42, .int .i64 H] := hN14
              clear hN14
              refine R.nil ⟨hU14.size, ?_⟩
              intro K13 hK13 hN13
              replace hk12 := hK13 _ hk12
              refine G.q rfl (Nat.le_of_ble_eq_true rfl) ?_
              refine R.assign ?_
              refine R.nil ?_
              refine G.nil ?_
              refine E.seq ?_
              refine E.seq ?_
              refine E.regionP rfl ?_
              refine R.move ?_
              refine R.not rfl ?_
              refine R.nil ?_
              refine E.condF rfl ?_
              refine E.skip ?_
              refine E.seq ?_
              refine E.regionP rfl ?_
              refine R.loadA t54 hB12 rfl rfl rfl trivial ?_
              refine R.storeA t54 hB3 rfl rfl rfl rfl (ones2 hM42.row.one rfl) nofun ?_
              intro w15 hU15 hs15 hN15
              replace hY := hY.upT hU15 hB3 (by decide)
              replace hM42 := hM42.upT hU15 hB3 (by decide)
              replace hB12 := hB12.up hU15 (fun h => ne3_12 h.symm)
              replace hE := hE.own hU15 hb3
              replace hB3 : Blk _ b3 54 #[u42, .int .i64 H] := hN15
              clear hN15
              refine R.nil ?_
              refine E.seq ?_
              refine E.regionP rfl ?_
              refine R.move ?_
              refine R.move ?_
              refine R.ix Try.underlying78 t117 (by decide) hss rfl rfl (by omega) ?_
              refine R.fldE (j := i * 3) fa117_2 hss (by rw [stepsC_len]; omega) rfl ?_
              refine R.load (j := i * 3 + 2) t3 (hss.ext hE) rfl (stepsC_at2 hi1) rfl (fun _ _ => trivial) ?_
              refine R.eql rfl rfl rfl ?_
              refine R.nil ?_
              refine E.cond rfl (fun hc54 => ?_) (fun hc54 => ?_)
              · replace hc54 := dT hc54
                have hds := doL_some hd
                obtain ⟨ht, rfl⟩ : ss[i].2.2 = -1 ∧ n1 = nx + 1 := by rcases doL_kind hd with q | q; (exact q); omega
                refine E.regionP rfl ?_
                refine R.move ?_
                refine R.addN (m := nx) (n := 1) rfl rfl (by omega) ?_
                refine R.assign ?_
                refine R.nil ?_
                refine E.regionP rfl ?_
                refine R.move ?_
                refine R.addN (n := 1) rfl rfl (by omega) ?_
                refine R.assign ?_
                refine R.nil ?_
                exact ⟨ss.length - (i + 1), by omega, i + 1, c, nx + 1, ys1, u42, rfl, by omega, by omega, by rw [← hq, goL_some hi1 hd, if_neg (by omega)], doL_right hR hd, hds.2.2.1 hnx, hE, .inr ⟨us42, hM42⟩, hB3, rfl, rfl, rfl, rfl, rfl, rfl, trivial⟩
              · replace hc54 := dF hc54
                have hds := doL_some hd
                obtain ⟨ht, rfl⟩ : 0 ≤ ss[i].2.2 ∧ n1 = nx := by rcases doL_kind hd with q | q; (exact absurd q.1 hc54); (exact q)
                refine E.regionP rfl ?_
                refine R.move ?_
                refine R.addN (m := c) (n := 1) rfl rfl (by omega) ?_
                refine R.assign ?_
                refine R.nil ?_
                refine E.regionP rfl ?_
                refine R.move ?_
                refine R.addN (n := 1) rfl rfl (by omega) ?_
                refine R.assign ?_
                refine R.nil ?_
                exact ⟨ss.length - (i + 1), by omega, i + 1, c + 1, n1, ys1, u42, rfl, by omega, by omega, by rw [← hq, goL_some hi1 hd, if_pos ht], doL_right hR hd, hds.2.2.1 hnx, hE, .inr ⟨us42, hM42⟩, hB3, rfl, rfl, rfl, rfl, rfl, rfl, trivial⟩
        · replace hc24 := dF hc24
          obtain rfl : i = ss.length := by omega
          rw [goL_end rfl] at hq
          refine E.exit ?_
          refine E.seq ?_
          refine E.seq ?_
          refine E.regionP rfl ?_
          refine R.move ?_
          refine R.move ?_
          refine R.len Try.underlying35 ho rfl ?_
          refine R.lss rfl rfl rfl ?_
          refine R.nil ?_
          refine E.cond rfl (fun hc62 => ?_) (fun hc62 => ?_)
          · replace hc62 := dT hc62
            refine E.seq ?_
            refine E.regionP rfl ?_
            refine R.move ?_
            refine R.len Try.underlying78 hss rfl ?_
            refine R.assign ?_
            refine R.assign ?_
            refine R.nil ?_
            refine E.ret ?_
            exact ret2 (.int .i64 (ss.length : Nat)) (.int .i64 351) rfl rfl rfl ⟨_, rfl, hE, by rw [hCR, if_neg (by omega), ← hq, if_pos (by omega)]⟩
          · replace hc62 := dF hc62
            refine E.skip ?_
            refine E.seq ?_
            refine E.regionP rfl ?_
            refine R.move ?_
            refine R.assign ?_
            refine R.assign ?_
            refine R.nil ?_
            refine E.ret ?_
            exact ret2 (.int .i64 (c : Nat)) (.int .i64 0) rfl rfl rfl ⟨_, rfl, hE, by rw [hCR, if_neg (by omega), ← hq, if_neg (by omega)]⟩
  · refine calls_E (args := [.agg #[v, .int .i64 h], vo, vss]) 66 Try.func82 rfl rfl (by simp) ?_
    have hE : Ext w w := Upd.refl w
    refine E.seq ?_
    refine E.regionP rfl ?_
    refine R.box rfl nofun ?_
    intro b3 w1 hb3 hx1 hB3
    replace hb3 := Nat.le_trans hE.size hb3
    replace hE := hE.ext hx1
    replace hB3 : Blk _ b3 54 #[v, .int .i64 h] := hB3
    refine R.assign ?_
    refine R.assign ?_
    refine R.nil ?_
    refine E.seq ?_
    refine E.seq ?_
    refine E.regionP rfl ?_
    refine R.loadA t54 hB3 rfl rfl rfl trivial ?_
    refine R.move ?_
    refine R.callE2 ent88 (rRightO _ (hm.ext hE) (ho.ext hE) hl hx (by omega)) rfl rfl nofun ?_
    rintro v16 w2 hx2 rfl
    rw [hb]
    replace hB3 := hB3.ext hx2
    replace hE := hE.ext hx2
    refine R.not rfl ?_
    refine R.nil ?_
    refine E.condT rfl ?_
    refine E.seq ?_
    refine E.regionP rfl ?_
    refine R.assign ?_
    refine R.assign ?_
    refine R.nil ?_
    refine E.ret ?_
    exact ret2 (.int .i64 0) (.int .i64 2) rfl rfl rfl ⟨_, rfl, hE, by simp [checkR, hb]⟩
end Go.Proofs.Ytfdmndkoiheebaa
