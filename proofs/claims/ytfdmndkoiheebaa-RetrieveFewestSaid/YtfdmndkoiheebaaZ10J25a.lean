import Derived.Test.YtfdmndkoiheebaaZ10J24
namespace Go.Proofs.Ytfdmndkoiheebaa
open Go Go.RowKit
def FewP (H : Nat) (ord : List Int) (ys : List (List Int)) (nx most m : Nat) : Prop := m ≤ most ∧ (m < most → (tryL H ord ys nx m).isSome)
theorem FewP.step {H : Nat} {ord : List Int} {ys : List (List Int)} {nx a k i most cm m : Nat} {ov : List Int} {b : Int} (h : OverJ ys H ord nx a k (b :: ov)) (hi : i < ys.length) (hst : ¬ (i = a ∨ ys[i].length = H)) (hc : FewP H ord ys nx most cm) (hp : 0 < cm) (hm : FewP H ord (shiftL ys H a i).1 nx (cm - 1) m) : FewP H ord ys nx most (min cm (1 + m)) := by
  obtain ⟨h1, h2⟩ := hc
  obtain ⟨h3, h4⟩ := hm
  refine ⟨by omega, fun hlt => ?_⟩
  rcases Nat.lt_or_ge (1 + m) cm with h5 | h5
  · rw [show min cm (1 + m) = m + 1 by omega, tryL_reloc h]
    rw [List.findSome?_isSome_iff]
    refine ⟨i, by simpa using hi, ?_⟩
    unfold tryG
    rw [if_neg (by rw [show ys.getD i [] = ys[i] by simp [hi]]; exact hst), Option.isSome_map]
    exact h4 (by omega)
  · rw [show min cm (1 + m) = cm by omega] at hlt ⊢
    exact h2 hlt
theorem drop_at {ord : List Int} {nx : Nat} (h : nx < ord.length) : (ints (ord.drop nx))[0]? = some (.int .i64 ord[nx]) := by simp [h]
theorem Str.step {H : Nat} {ord : List Int} {ys : List (List Int)} {nx : Nat} {ss : List (Int × Int × Int)} (h : Str H ord ys nx ss) : ss = [] ∨ (∃ (a k : Nat) (tt : List (Int × Int × Int)) (hO : OverJ ys H ord nx a k []), ss = (ord[nx]'hO.ln, (a : Int), -1) :: tt ∧ Str H ord (ys.set a ((ys[a]'hO.la).take k)) (nx + 1) tt) ∨
    ∃ (a k j : Nat) (b : Int) (ov : List Int) (tt : List (Int × Int × Int)) (_ : OverJ ys H ord nx a k (b :: ov)) (hj : j < ys.length), j ≠ a ∧ ys[j].length ≠ H ∧ ss = (b, (a : Int), (j : Int)) :: tt ∧ Str H ord (shiftL ys H a j).1 nx tt := by
  cases h with
  | done h => exact .inl rfl
  | leave h hs => exact .inr (.inl ⟨_, _, _, h, rfl, hs⟩)
  | move h hj hja hjH hs => exact .inr (.inr ⟨_, _, _, _, _, _, h, hj, hja, hjH, rfl, hs⟩)
theorem Str.stepAt {H : Nat} {ord : List Int} {ys : List (List Int)} {nx i : Nat} {ss : List (Int × Int × Int)} (h : Str H ord ys nx (ss.drop i)) (hi : i < ss.length) : (∃ (a k : Nat) (hO : OverJ ys H ord nx a k []), ss[i].1 = ord[nx]'hO.ln ∧ ss[i].2.2 = -1 ∧ Str H ord (ys.set a ((ys[a]'hO.la).take k)) (nx + 1) (ss.drop (i + 1))) ∨
    ∃ (a k j : Nat) (b : Int) (ov : List Int) (_ : OverJ ys H ord nx a k (b :: ov)) (hj : j < ys.length), j ≠ a ∧ ys[j].length ≠ H ∧ ss[i].1 = b ∧ ss[i].2.1 = (a : Int) ∧ ss[i].2.2 = (j : Int) ∧ Str H ord (shiftL ys H a j).1 nx (ss.drop (i + 1)) := by
  rw [List.drop_eq_getElem_cons hi] at h
  rcases h.step with h1 | ⟨a, k, tt, hO, e, hs⟩ | ⟨a, k, j, b, ov, tt, hO, hj, q1, q2, e, hs⟩
  · cases h1
  · obtain ⟨e1, rfl⟩ := List.cons.inj e
    exact .inl ⟨a, k, hO, by rw [e1], by rw [e1], hs⟩
  · obtain ⟨e1, rfl⟩ := List.cons.inj e
    exact .inr ⟨a, k, j, b, ov, hO, hj, q1, q2, by rw [e1], by rw [e1], by rw [e1], hs⟩
set_option maxHeartbeats 1600000 in
theorem fewest_ {H : Nat} {ord : List Int} : ∀ (n : Nat) (w : World) (v vo : Value) (us : List Value) (ys : List (List Int)) (nx most : Nat), n = ord.length - nx + most → GoodJ ys H ord nx → nx ≤ ord.length → most < 1000 → Mat w v us ys → Ints w vo (ord.drop nx) →
    Calls Try.prog 42 #[.agg #[v, .int .i64 H], vo, .int .i64 (most : Nat)] w (Ret fun r w' => Ext w w' ∧ ∃ m : Nat, r = .int .i64 (m : Nat) ∧ FewP H ord ys nx most m) := by
  intro n
  induction n using Nat.strongRecOn
  rename_i n ih
  intro w v vo us ys nx most hnn hG hnx hmm hm ho
  have hrl := hG.right
  have hl30 := hrl.2.2.2.1
  have hdl : (ord.drop nx).length = ord.length - nx := List.length_drop
  refine calls_E (args := [.agg #[v, .int .i64 H], vo, .int .i64 (most : Nat)]) 83 Try.func42 rfl rfl (by simp) ?_
  have hE : Ext w w := Upd.refl w
  refine E.seq ?_
  refine E.regionP rfl ?_
  refine R.box rfl nofun ?_
  intro b3 w1 hb3 hx1 hB3
  replace hb3 := Nat.le_trans hE.size hb3
  replace hE := hE.ext hx1
  replace hB3 : Blk _ b3 24 #[v, .int .i64 H] := hB3
  refine R.assign ?_
  refine R.nil ?_
  refine E.seq ?_
  refine E.seq ?_
  refine E.regionP rfl ?_
  refine R.move ?_
  refine R.len Try.underlying35 ho rfl ?_
  refine R.eql rfl rfl rfl ?_
  refine R.nil ?_
  refine E.cond rfl (fun hc19 => ?_) (fun hc19 => ?_)
  · replace hc19 := dT hc19
    have hn : ¬ nx < ord.length := by omega
    refine E.seq ?_
    refine E.regionP rfl ?_
    refine R.assign ?_
    refine R.nil ?_
    refine E.ret ?_
    exact ret1 (.int .i64 ((0 : Nat) : Int)) rfl rfl ⟨_, rfl, hE, 0, rfl, Nat.zero_le _, fun _ => by rw [tryL_end hn]; rfl⟩
  · replace hc19 := dF hc19
    have hn : nx < ord.length := by omega
    obtain ⟨a, k, ov, hO, hab, hfv⟩ := OverJ.start hG hn
    have hlen := hO.len
    have hal := sum_lengths hrl _ (List.getElem_mem hO.la)
    refine E.skip ?_
    refine E.seq ?_
    refine E.regionW (fun _ b => b < w1.heap.size) [] mixed rfl (by kernel_rfl) ?_
    intro w2 hx2 hh2
    replace hB3 := hB3.ext hx2
    replace hE := hE.ext hx2
    have hEs : Ext w2 w2 := Upd.refl _
    have hS0 := hx2.size
    have hSs : ∀ b, b < w2.heap.size → b < w1.heap.size := fun b hb => by rw [hh2] at hb; exact hb
    have hSa : ∀ b, b < w.heap.size → b < w1.heap.size := fun b hb => by have := hE.size; rw [hh2] at this; omega
    have hB3s := hB3
    refine R.loadAE t24 hB3s hEs rfl rfl rfl hSs ?_
    refine R.move ?_
    refine R.ix (m := 0) Try.underlying35 t3 (by decide) ho rfl rfl (by omega) ?_
    refine R.ldE (j := 0) t3 ho hE rfl (drop_at hn) rfl hSa ?_
    refine R.callE2 ent24 (aboveP _ ⟨_, hm.ext hE⟩ hrl.l6 hrl.x6 hab) rfl rfl (fun _ _ hb => Nat.lt_of_lt_of_le hb (Nat.le_trans hS0 hEs.size)) ?_
    rintro v25 w3 hx3 ⟨u25, rfl, hS25, hf25⟩
    replace hB3 := hB3.ext hx3
    replace hE := hE.ext hx3
    replace hEs := hEs.ext hx3
    refine R.move ?_
    refine R.extract rfl rfl ?_
    refine R.extract rfl rfl ?_
    refine R.assign ?_
    refine R.assign ?_
    refine R.nil ?_
    refine E.seq ?_
    refine E.seq ?_
    refine E.regionP rfl ?_
    refine R.move ?_
    refine R.len Try.underlying35 hS25.row rfl ?_
    refine R.eql rfl rfl rfl ?_
    refine R.nil ?_
    refine E.cond rfl (fun hc30 => ?_) (fun hc30 => ?_)
    · replace hc30 := dT hc30
      obtain rfl : ov = [] := List.eq_nil_of_length_eq_zero (by omega)
      obtain ⟨ht1, hdo, hG1, htk⟩ := hO.leave
      refine E.seq ?_
      have hW0 := hE.size
      refine E.regionF (fun c x => x < w3.heap.size ∧ (c = false → True)) [] [36] mixed rfl (by kernel_rfl) (fun _ _ h => h.1) ?_
      intro w4 hx4 hh4
      replace hS25 := hS25.ext hx4
      replace hB3 := hB3.ext hx4
      replace hE := hE.ext hx4
      have hEs : Ext w4 w4 := Upd.refl _
      have hS0 := hx4.size
      have hSB : ∀ b, b < w4.heap.size → b < w3.heap.size ∧ (true = false → (fun x => True) b) := fun b hb => ⟨by rw [hh4] at hb; exact hb, nofun⟩
      have hSA : ∀ b, b < w4.heap.size → (fun x => True) b → b < w3.heap.size ∧ (false = false → (fun x => True) b) := fun b hb h => ⟨by rw [hh4] at hb; exact hb, fun _ => h⟩
      have hSO : ∀ b, b < w.heap.size → b < w3.heap.size ∧ (false = false → (fun x => True) b) := fun b hb => hSA b (Nat.lt_of_lt_of_le hb hE.size) (trivial)
      have hS25s := hS25
      have hB3s := hB3
      refine G.q rfl (Nat.le_of_ble_eq_true rfl) ?_
      refine R.loadA t24 hB3 rfl rfl rfl (hSA b3 hB3s.lt (trivial)) ?_
      refine R.nil ?_
      refine G.q rfl (Nat.le_of_ble_eq_true rfl) ?_
      refine R.move ?_
      refine R.nil ?_
      refine G.q rfl (Nat.le_of_ble_eq_true rfl) ?_
      refine R.ix (m := 0) Try.underlying35 t3 (by decide) ho rfl rfl (by omega) ?_
      refine R.nil ?_
      refine G.q rfl (Nat.le_of_ble_eq_true rfl) ?_
      refine R.ldE (j := 0) t3 ho hE rfl (drop_at hn) rfl hSO ?_
      refine R.nil ?_
      refine G.l rfl rfl (.inl rfl) (Nat.le_of_ble_eq_true rfl) ?_
      intro w5 hx5
      replace hS25 := hS25.ext hx5
      replace hB3 := hB3.ext hx5
      replace hE := hE.ext hx5
      replace hEs := hEs.ext hx5
      refine R.callE2 ent25 (yTakeP _ ⟨_, hm.ext hE⟩ hrl.l6 hrl.x6 htk) rfl rfl (fun _ _ hb => G.S1_lt (fun _ _ h => h.1) (Nat.le_trans hS0 hEs.size) hb) ?_
      rintro v36 w6 hx6 ⟨u36, rfl, hY36⟩
      replace hY36 := hY36.mono hE.size
      replace hS25 := hS25.ext hx6
      replace hB3 := hB3.ext hx6
      replace hE := hE.ext hx6
      replace hEs := hEs.ext hx6
      refine R.nil ⟨hx6.size, ?_⟩
      intro K5 hK5 hN5
      refine G.q rfl (Nat.le_of_ble_eq_true rfl) ?_
      refine R.move ?_
      refine R.nil ?_
      refine G.q rfl (Nat.le_of_ble_eq_true rfl) ?_
      refine R.extract rfl rfl ?_
      refine R.nil ?_
      refine G.q rfl (Nat.le_of_ble_eq_true rfl) ?_
      refine R.extract rfl rfl ?_
      refine R.nil ?_
      refine G.alloc t24 ?_
      intro w7 b9 K7 hx7 hb9 hn9 hK7 hk9 hB9
      have ne3_9 : b3 ≠ b9 := by have h1 := hB3s.lt; rw [hh4] at h1; omega
      have hn09 := hb9
      replace hb9 := Nat.le_trans hW0 hb9
      replace hS25 := hS25.ext hx7
      replace hY36 := hY36.ext hx7
      replace hB3 := hB3.ext hx7
      replace hE := hE.ext hx7
      replace hEs := hEs.ext hx7
      replace hB9 : Blk _ b9 24 #[.slice none 0 0, .int .i64 0] := hB9
      refine G.l rfl rfl (.inr rfl) (Nat.le_of_ble_eq_true rfl) ?_
      intro w8 hx8
      replace hS25 := hS25.ext hx8
      replace hY36 := hY36.ext hx8
      replace hB3 := hB3.ext hx8
      replace hB9 := hB9.ext hx8
      replace hE := hE.ext hx8
      replace hEs := hEs.ext hx8
      refine R.storeA t24 hB9 rfl rfl rfl rfl (ones2 hY36.one' rfl) (fun _ h => G.S1_new (fun _ _ h => h.1) hn09 hk9 h) ?_
      intro w9 hU9 hs9 hN9
      replace hEs := hEs.trans hU9 (fun c hc h => by have h1 : c = b9 := h; rw [hh4] at hc; omega)
      replace hS25 := hS25.upT hU9 hB9 (by decide)
      replace hY36 := hY36.upT hU9 hB9 (by decide)
      replace hB3 := hB3.up hU9 (fun h => ne3_9 h)
      replace hE := hE.own hU9 hb9
      replace hB9 : Blk _ b9 24 #[u36, .int .i64 H] := hN9
      clear hN9
      refine R.nil ⟨hU9.size, ?_⟩
      intro K8 hK8 hN8
      replace hk9 := hK8 _ hk9
      refine G.q rfl (Nat.le_of_ble_eq_true rfl) ?_
      refine R.assign ?_
      refine R.nil ?_
      refine G.nil ?_
      refine E.seq ?_
      refine E.regionW (fun _ b => b < w9.heap.size) [] mixed rfl (by kernel_rfl) ?_
      intro w10 hx10 hh10
      replace hS25 := hS25.ext hx10
      replace hY36 := hY36.ext hx10
      replace hB3 := hB3.ext hx10
      replace hB9 := hB9.ext hx10
      replace hE := hE.ext hx10
      have hEs : Ext w10 w10 := Upd.refl _
      have hS0 := hx10.size
      have hSs : ∀ b, b < w10.heap.size → b < w9.heap.size := fun b hb => by rw [hh10] at hb; exact hb
      have hSa : ∀ b, b < w.heap.size → b < w9.heap.size := fun b hb => by have := hE.size; rw [hh10] at this; omega
      have hS25s := hS25
      have hY36s := hY36
      have hB3s := hB3
      have hB9s := hB9
      refine R.loadAE t24 hB9s hEs rfl rfl rfl hSs ?_
      refine R.move ?_
      have ho1 := Ints.drop ho (k := 0 + 1) (by omega)
      rw [List.drop_drop, show nx + (0 + 1) = nx + 1 by omega] at ho1
      have ho9 := ho
      obtain ⟨a41, c41, hv41, hc41, _⟩ := ho9
      refine R.slc (l := 0 + 1) (r := (ord.drop nx).length) Try.underlying35 t3 rfl hv41 ⟨_, rfl⟩ rfl (by omega) (by omega) ?_
      refine R.move ?_
      refine R.callE3 ent42 (ih (ord.length - (nx + 1) + most) (by omega) _ _ _ _ _ (nx + 1) most rfl hG1 (by omega) hmm hY36.mat.choose_spec (ho1.ext hE)) rfl rfl rfl (fun _ _ hb => Nat.lt_of_lt_of_le hb (Nat.le_trans hS0 hEs.size)) ?_
      rintro v43 w11 hx11 ⟨m43, rfl, hF43⟩
      replace hS25 := hS25.ext hx11
      replace hY36 := hY36.ext hx11
      replace hB3 := hB3.ext hx11
      replace hB9 := hB9.ext hx11
      replace hE := hE.ext hx11
      replace hEs := hEs.ext hx11
      refine R.assign ?_
      refine R.nil ?_
      refine E.ret ?_
      exact ret1 (.int .i64 (m43 : Nat)) rfl rfl ⟨_, rfl, hE, m43, rfl, hF43.1, fun h => by rw [tryL_leave hO, Option.isSome_map]; exact hF43.2 h⟩
    · replace hc30 := dF hc30
      obtain ⟨b, ov, rfl⟩ : ∃ b ov', ov = b :: ov' := by
        cases ov with
        | nil => simp at hc30
        | cons b ov => exact ⟨b, ov, rfl⟩
      simp only [List.length_cons] at hlen
      refine E.skip ?_
      refine E.seq ?_
      refine E.regionW (fun _ b => b < w3.heap.size) [] mixed rfl (by kernel_rfl) ?_
      intro w12 hx12 hh12
      replace hS25 := hS25.ext hx12
      replace hB3 := hB3.ext hx12
      replace hE := hE.ext hx12
      have hEs : Ext w12 w12 := Upd.refl _
      have hS0 := hx12.size
      have hSs : ∀ b, b < w12.heap.size → b < w3.heap.size := fun b hb => by rw [hh12] at hb; exact hb
      have hSa : ∀ b, b < w.heap.size → b < w3.heap.size := fun b hb => by have := hE.size; rw [hh12] at this; omega
      have hS25s := hS25
      have hB3s := hB3
      refine R.loadAE t24 hB3s hEs rfl rfl rfl hSs ?_
      refine R.move ?_
      refine R.ix (m := 0) Try.underlying35 t3 (by decide) ho rfl rfl (by omega) ?_
      refine R.ldE (j := 0) t3 ho hE rfl (drop_at hn) rfl hSa ?_
      refine R.callE2 ent23 (findE _ ⟨_, hm.ext hE⟩ hrl.l6 hrl.x6 hfv) rfl rfl (fun _ _ hb => Nat.lt_of_lt_of_le hb (Nat.le_trans hS0 hEs.size)) ?_
      rintro v49 w13 hx13 rfl
      replace hS25 := hS25.ext hx13
      replace hB3 := hB3.ext hx13
      replace hE := hE.ext hx13
      replace hEs := hEs.ext hx13
      refine R.move ?_
      refine R.extract rfl rfl ?_
      refine R.extract rfl rfl ?_
      refine R.extract rfl rfl ?_
      refine R.assign ?_
      refine R.assign ?_
      refine R.assign ?_
      refine R.nil ?_
      refine E.seq ?_
      refine E.seq ?_
      refine E.regionP rfl ?_
      refine R.fld fa24_0 rfl ?_
      refine R.loadB t22 hB3 rfl rfl rfl trivial ?_
      refine R.len Try.underlying22 hm.row rfl ?_
      refine R.move ?_
      refine R.nil ?_
      refine E.block ?_
      refine E.loop (fun n e wr => ∃ (i cm : Nat), n = ys.length - i ∧ i ≤ ys.length ∧ FewP H ord ys nx most cm ∧ Ext w wr ∧ Blk wr b3 24 #[v, .int .i64 H] ∧ Has e [(1, vo), (2, .int .i64 (cm : Nat)), (3, .pointer (some ⟨b3, 0, none⟩)), (11, .int .i64 ((a : Nat) : Int)), (54, v), (55, .int .i64 ys.length), (56, .int .i64 (i : Nat))]) (ys.length) ?_ ?_
      · exact ⟨0, most, rfl, Nat.zero_le _, ⟨Nat.le_refl _, fun h => absurd h (Nat.lt_irrefl _)⟩, hE, hB3, rfl, rfl, rfl, rfl, rfl, rfl, rfl, trivial⟩
      · rintro n e wr ⟨i, cm, rfl, hi, hF, hE, hB3, hH⟩
        obtain ⟨e, rfl⟩ := hH.ex
        clear hH
        refine E.seq ?_
        refine E.regionP rfl ?_
        refine R.lss rfl rfl rfl ?_
        refine R.nil ?_
        refine E.seq ?_
        refine E.cond rfl (fun hc57 => ?_) (fun hc57 => ?_)
        · replace hc57 := dT hc57
          have hi1 : i < ys.length := by omega
          refine E.skip ?_
          refine E.seq ?_
          refine E.block ?_
          refine E.seq ?_
          refine E.regionP rfl ?_
          refine R.move ?_
          refine R.assign ?_
          refine R.nil ?_
          refine E.seq ?_
          have hst : (i = a ∨ ys[i].length = H) ∨ ¬ (i = a ∨ ys[i].length = H) := Decidable.em _
          rcases hst with hst | hst
          · refine E.regionP rfl ?_
            refine R.loadA t24 hB3 rfl rfl rfl trivial ?_
            refine R.move ?_
            refine R.move ?_
            refine R.build build30 rfl ?_
            refine R.callE2 ent36 (yShiftP _ ⟨_, hm.ext hE⟩ hrl.l6 hrl.x6 (hrl.shiftR_no (f := ((a : Nat) : Int)) (t := ((i : Nat) : Int)) (hO.stuck hi1 hst))) rfl rfl nofun ?_
            rintro v64 w14 hx14 ⟨u64, rfl, hY64⟩
            replace hY64 := hY64.mono hE.size
            replace hB3 := hB3.ext hx14
            replace hE := hE.ext hx14
            refine R.move ?_
            refine R.extract rfl rfl ?_
            refine R.extract rfl rfl ?_
            refine R.alloc t24 nofun ?_
            intro b15 w15 hb15 hx15 hB15
            have ne3_15 : b3 ≠ b15 := by have := hB3.lt; omega
            replace hb15 := Nat.le_trans hE.size hb15
            replace hY64 := hY64.ext hx15
            replace hB3 := hB3.ext hx15
            replace hE := hE.ext hx15
            replace hB15 : Blk _ b15 24 #[.slice none 0 0, .int .i64 0] := hB15
            refine R.storeA t24 hB15 rfl rfl rfl rfl (ones2 hY64.one' rfl) nofun ?_
            intro w16 hU16 hs16 hN16
            replace hY64 := hY64.upT hU16 hB15 (by decide)
            replace hB3 := hB3.up hU16 (fun h => ne3_15 h)
            replace hE := hE.own hU16 hb15
            replace hB15 : Blk _ b15 24 #[u64, .int .i64 0] := hN16
            clear hN16
            refine R.assign ?_
            refine R.nil ?_
            refine E.seq ?_
            refine E.regionP rfl ?_
            refine R.move ?_
            refine R.eql (b := false) rfl rfl (decide_eq_false (hO.stuck hi1 hst)) ?_
            refine R.move ?_
            refine R.gF rfl rfl rfl ?_
            refine R.gF rfl rfl rfl ?_
            refine R.pickF rfl ?_
            refine R.nil ?_
            refine E.condF rfl ?_
            refine E.skip ?_
            refine E.regionP rfl ?_
            refine R.addN (n := 1) rfl rfl (by omega) ?_
            refine R.move ?_
            refine R.nil ?_
            exact ⟨ys.length - (i + 1), by omega, i + 1, cm, rfl, by omega, hF, hE, hB3, rfl, rfl, rfl, rfl, rfl, rfl, rfl, trivial⟩
          · obtain ⟨hO1, hsh, hdo⟩ := hO.next hi1 (by omega) (by omega)
            have hG1 := hO1.good
            refine E.regionP rfl ?_
            refine R.loadA t24 hB3 rfl rfl rfl trivial ?_
            refine R.move ?_
            refine R.move ?_
            refine R.build build30 rfl ?_
            refine R.callE2 ent36 (yShiftP _ ⟨_, hm.ext hE⟩ hrl.l6 hrl.x6 (hrl.shiftR_ok (f := ((a : Nat) : Int)) (t := ((i : Nat) : Int)) hsh)) rfl rfl nofun ?_
            rintro v64 w17 hx17 ⟨u64, rfl, hY64⟩
            replace hY64 := hY64.mono hE.size
            replace hB3 := hB3.ext hx17
            replace hE := hE.ext hx17
            refine R.move ?_
            refine R.extract rfl rfl ?_
            refine R.extract rfl rfl ?_
            refine R.alloc t24 nofun ?_
            intro b15 w18 hb15 hx18 hB15
            have ne3_15 : b3 ≠ b15 := by have := hB3.lt; omega
            replace hb15 := Nat.le_trans hE.size hb15
            replace hY64 := hY64.ext hx18
            replace hB3 := hB3.ext hx18
            replace hE := hE.ext hx18
            replace hB15 : Blk _ b15 24 #[.slice none 0 0, .int .i64 0] := hB15
            refine R.storeA t24 hB15 rfl rfl rfl rfl (ones2 hY64.one' rfl) nofun ?_
            intro w19 hU19 hs19 hN19
            replace hY64 := hY64.upT hU19 hB15 (by decide)
            replace hB3 := hB3.up hU19 (fun h => ne3_15 h)
            replace hE := hE.own hU19 hb15
            replace hB15 : Blk _ b15 24 #[u64, .int .i64 H] := hN19
            clear hN19
            refine R.assign ?_
            refine R.nil ?_
            refine E.seq ?_
            refine E.regionP rfl ?_
            refine R.move ?_
            refine R.eql (b := true) rfl rfl (decide_eq_true rfl) ?_
            refine R.move ?_
            refine R.gT rfl rfl ?_
            refine R.move ?_
            refine R.gT rfl rfl ?_
            refine R.gtr rfl rfl rfl ?_
            refine R.pickT rfl ?_
            refine R.nil ?_
            refine E.cond rfl (fun hc72 => ?_) (fun hc72 => ?_)
            · replace hc72 := dT hc72
              have hcm : 0 < cm := by omega
              have hcm1 := hF.1
              refine E.regionP rfl ?_
              refine R.move ?_
              refine R.loadA t24 hB15 rfl rfl rfl trivial ?_
              refine R.move ?_
              refine R.move ?_
              refine R.subN (m := cm) (n := 1) rfl rfl (by omega) (by omega) ?_
              refine R.callE3 ent42 (ih (ord.length - nx + (cm - 1)) (by omega) _ _ vo _ _ nx (cm - 1) rfl hG1 hnx (by omega) hY64.mat.choose_spec (ho.ext hE)) rfl rfl rfl nofun ?_
              rintro v78 w20 hx20 ⟨m78, rfl, hF78⟩
              replace hY64 := hY64.ext hx20
              replace hB3 := hB3.ext hx20
              replace hB15 := hB15.ext hx20
              replace hE := hE.ext hx20
              have hmb := hF78.1
              refine R.addN (m := 1) (n := m78) rfl rfl (by omega) ?_
              refine R.minN rfl rfl ?_
              refine R.assign ?_
              refine R.nil ?_
              refine E.regionP rfl ?_
              refine R.addN (n := 1) rfl rfl (by omega) ?_
              refine R.move ?_
              refine R.nil ?_
              exact ⟨ys.length - (i + 1), by omega, i + 1, min cm (1 + m78), rfl, by omega, FewP.step hO hi1 hst hF hcm hF78, hE, hB3, rfl, rfl, rfl, rfl, rfl, rfl, rfl, trivial⟩
            · replace hc72 := dF hc72
              refine E.skip ?_
              refine E.regionP rfl ?_
              refine R.addN (n := 1) rfl rfl (by omega) ?_
              refine R.move ?_
              refine R.nil ?_
              exact ⟨ys.length - (i + 1), by omega, i + 1, cm, rfl, by omega, hF, hE, hB3, rfl, rfl, rfl, rfl, rfl, rfl, rfl, trivial⟩
        · replace hc57 := dF hc57
          refine E.exit ?_
          refine E.seq ?_
          refine E.regionP rfl ?_
          refine R.move ?_
          refine R.assign ?_
          refine R.nil ?_
          refine E.ret ?_
          exact ret1 (.int .i64 (cm : Nat)) rfl rfl ⟨_, rfl, hE, cm, rfl, hF⟩
end Go.Proofs.Ytfdmndkoiheebaa
