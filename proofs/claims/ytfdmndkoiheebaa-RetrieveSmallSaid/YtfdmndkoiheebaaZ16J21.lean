import Derived.Test.YtfdmndkoiheebaaZ16J20
namespace Go.Proofs.Ytfdmndkoiheebaa
open Go Go.RowKit
theorem OverJ.stuck {ys : List (List Int)} {H : Nat} {ord : List Int} {nx a k : Nat} {ov : List Int} {b : Int} (h : OverJ ys H ord nx a k (b :: ov)) {i : Nat} (hi : i < ys.length) (hs : i = a ∨ ys[i].length = H) : (shiftL ys H (a : Nat) (i : Nat)).2 ≠ 0 := by
  have hl := h.len
  have ha := h.la
  simp at hl
  have hga : ys.getD a [] = ys[a] := by simp [ha]
  have hgi : ys.getD i [] = ys[i] := by simp [hi]
  unfold shiftL
  rw [if_neg (by omega), Int.toNat_natCast, Int.toNat_natCast, hga, hgi]
  by_cases hfa : ((a : Nat) : Int) = ((i : Nat) : Int)
  · rw [if_pos hfa]; exact (by decide : (340 : Int) ≠ 0)
  · rcases hs with rfl | hs
    · exact absurd rfl hfa
    · rw [if_neg hfa, if_neg (by omega), if_pos hs]; exact (by decide : (4 : Int) ≠ 0)
theorem OverJ.many {ys : List (List Int)} {H : Nat} {ord : List Int} {nx a k left : Nat} {ov : List Int} (h : OverJ ys H ord nx a k ov) (hl : left < ov.length) : tryL H ord ys nx left = none := by
  rcases hT : tryL H ord ys nx left with _ | ss
  · rfl
  · obtain ⟨h1, h2⟩ := try_str _ _ _ _ _ rfl h.good hT
    have := h1.over _ _ _ h
    omega
set_option maxHeartbeats 6400000 in
theorem rWithin {H : Nat} {ord : List Int} (hol : ord.length < 1000) : ∀ (n : Nat) (w : World) (v vo : Value) (us : List Value) (ys : List (List Int)) (nx left : Nat), n = ord.length - nx + left → GoodJ ys H ord nx → nx ≤ ord.length → left < 1000 → Mat w v us ys → Ints w vo ord →
    Calls Try.prog 100 #[.agg #[v, .int .i64 H], vo, .int .i64 (nx : Nat), .int .i64 (left : Nat)] w (Ret fun r w' => Ext w w' ∧ ∃ u ss, r = .tuple #[u, .bool (tryL H ord ys nx left).isSome] ∧ Sl w' 117 3 u ss.length (stepsC ss) ∧ Fresh w u ∧ ss.length ≤ ord.length - nx + left ∧ ∀ tt, tryL H ord ys nx left = some tt → ss = tt) := by
  intro n
  induction n using Nat.strongRecOn
  rename_i n ih
  intro w v vo us ys nx left hnn hG hnx hlf hm ho
  have hrl := hG.right
  have hl5 : ys.length < 100000 := by have := hrl.2.2.2.1; omega
  have hx10 : ∀ xs ∈ ys, xs.length ≤ 10 := fun xs h => by have := sum_lengths hrl xs h; omega
  refine calls_E (args := [.agg #[v, .int .i64 H], vo, .int .i64 (nx : Nat), .int .i64 (left : Nat)]) 118 Try.func100 rfl rfl (by simp) ?_
  have hE : Ext w w := Upd.refl w
  refine E.seq ?_
  refine E.regionP rfl ?_
  refine R.box rfl nofun ?_
  intro b4 w1 hb4 hx1 hB4
  replace hb4 := Nat.le_trans hE.size hb4
  replace hE := hE.ext hx1
  replace hB4 : Blk _ b4 54 #[v, .int .i64 H] := hB4
  refine R.assign ?_
  refine R.assign ?_
  refine R.nil ?_
  refine E.seq ?_
  refine E.seq ?_
  refine E.regionP rfl ?_
  refine R.move ?_
  refine R.move ?_
  refine R.len Try.underlying35 ho rfl ?_
  refine R.eql rfl rfl rfl ?_
  refine R.nil ?_
  refine E.cond rfl (fun hc27 => ?_) (fun hc27 => ?_)
  · replace hc27 := dT hc27
    have hn : ¬ nx < ord.length := by omega
    refine E.seq ?_
    refine E.regionP rfl ?_
    refine R.assign ?_
    refine R.assign ?_
    refine R.nil ?_
    refine E.ret ?_
    exact ret2 (.slice none 0 0) (.bool true) rfl rfl rfl ⟨_, rfl, hE, .slice none 0 0, [], by rw [tryL_end hn]; rfl, Sl.nil _ _ _, Fresh.nil _, by simp, fun tt h => by rw [tryL_end hn] at h; exact Option.some.inj h⟩
  · replace hc27 := dF hc27
    have hn : nx < ord.length := by omega
    obtain ⟨a, k, ov, hO, hab, hfv⟩ := OverJ.start hG hn
    have hlen := hO.len
    have hal := sum_lengths hrl _ (List.getElem_mem hO.la)
    refine E.skip ?_
    refine E.seq ?_
    refine E.regionW (fun _ b => b < w1.heap.size) [] mixed rfl (by kernel_rfl) ?_
    intro w2 hx2 hh2
    replace hB4 := hB4.ext hx2
    replace hE := hE.ext hx2
    have hEs : Ext w2 w2 := Upd.refl _
    have hS0 := hx2.size
    have hSs : ∀ b, b < w2.heap.size → b < w1.heap.size := fun b hb => by rw [hh2] at hb; exact hb
    have hSa : ∀ b, b < w.heap.size → b < w1.heap.size := fun b hb => by have := hE.size; rw [hh2] at this; omega
    have hB4s := hB4
    refine R.loadAE t54 hB4s hEs rfl rfl rfl hSs ?_
    refine R.move ?_
    refine R.move ?_
    refine R.ix Try.underlying35 t3 (by decide) ho rfl rfl (by omega) ?_
    refine R.ldE t3 ho hE rfl (int_at (by omega)) rfl hSa ?_
    refine R.callE2 ent52 (rFindE _ (hm.ext hE) hrl.l6 hrl.x6 hfv) rfl rfl (fun _ _ hb => Nat.lt_of_lt_of_le hb (Nat.le_trans hS0 hEs.size)) ?_
    rintro v34 w3 hx3 rfl
    replace hB4 := hB4.ext hx3
    replace hE := hE.ext hx3
    replace hEs := hEs.ext hx3
    refine R.move ?_
    refine R.extract rfl rfl ?_
    refine R.extract rfl rfl ?_
    refine R.extract rfl rfl ?_
    refine R.assign ?_
    refine R.assign ?_
    refine R.assign ?_
    refine R.nil ?_
    refine E.seq ?_
    refine E.regionW (fun _ b => b < w3.heap.size) [] mixed rfl (by kernel_rfl) ?_
    intro w4 hx4 hh4
    replace hB4 := hB4.ext hx4
    replace hE := hE.ext hx4
    have hEs : Ext w4 w4 := Upd.refl _
    have hS0 := hx4.size
    have hSs : ∀ b, b < w4.heap.size → b < w3.heap.size := fun b hb => by rw [hh4] at hb; exact hb
    have hSa : ∀ b, b < w.heap.size → b < w3.heap.size := fun b hb => by have := hE.size; rw [hh4] at this; omega
    have hB4s := hB4
    refine R.loadAE t54 hB4s hEs rfl rfl rfl hSs ?_
    refine R.move ?_
    refine R.move ?_
    refine R.ix Try.underlying35 t3 (by decide) ho rfl rfl (by omega) ?_
    refine R.ldE t3 ho hE rfl (int_at (by omega)) rfl hSa ?_
    refine R.callE2 ent53 (rAboveE _ (hm.ext hE) hl5 hx10 hab) rfl rfl (fun _ _ hb => Nat.lt_of_lt_of_le hb (Nat.le_trans hS0 hEs.size)) ?_
    rintro v44 w5 hx5 ⟨u44, rfl, hS44, hf44⟩
    replace hB4 := hB4.ext hx5
    replace hE := hE.ext hx5
    replace hEs := hEs.ext hx5
    refine R.move ?_
    refine R.extract rfl rfl ?_
    refine R.extract rfl rfl ?_
    refine R.assign ?_
    refine R.assign ?_
    refine R.nil ?_
    refine E.seq ?_
    refine E.seq ?_
    refine E.regionP rfl ?_
    refine R.move ?_
    refine R.len Try.underlying35 hS44.row rfl ?_
    refine R.eql rfl rfl rfl ?_
    refine R.nil ?_
    refine E.cond rfl (fun hc49 => ?_) (fun hc49 => ?_)
    · replace hc49 := dT hc49
      obtain rfl : ov = [] := List.eq_nil_of_length_eq_zero (by omega)
      obtain ⟨ht1, hdo, hG1, htk⟩ := hO.leave
      refine E.seq ?_
      have hW0 := hE.size
      refine E.regionF (fun c x => x < w5.heap.size ∧ (c = false → True)) [] [56] mixed rfl (by kernel_rfl) (fun _ _ h => h.1) ?_
      intro w6 hx6 hh6
      replace hS44 := hS44.ext hx6
      replace hB4 := hB4.ext hx6
      replace hE := hE.ext hx6
      have hEs : Ext w6 w6 := Upd.refl _
      have hS0 := hx6.size
      have hSB : ∀ b, b < w6.heap.size → b < w5.heap.size ∧ (true = false → (fun x => True) b) := fun b hb => ⟨by rw [hh6] at hb; exact hb, nofun⟩
      have hSA : ∀ b, b < w6.heap.size → (fun x => True) b → b < w5.heap.size ∧ (false = false → (fun x => True) b) := fun b hb h => ⟨by rw [hh6] at hb; exact hb, fun _ => h⟩
      have hSO : ∀ b, b < w.heap.size → b < w5.heap.size ∧ (false = false → (fun x => True) b) := fun b hb => hSA b (Nat.lt_of_lt_of_le hb hE.size) (trivial)
      have hS44s := hS44
      have hB4s := hB4
      refine G.q rfl (Nat.le_of_ble_eq_true rfl) ?_
      refine R.loadA t54 hB4 rfl rfl rfl (hSA b4 hB4s.lt (trivial)) ?_
      refine R.nil ?_
      refine G.q rfl (Nat.le_of_ble_eq_true rfl) ?_
      refine R.move ?_
      refine R.nil ?_
      refine G.q rfl (Nat.le_of_ble_eq_true rfl) ?_
      refine R.move ?_
      refine R.nil ?_
      refine G.q rfl (Nat.le_of_ble_eq_true rfl) ?_
      refine R.ix Try.underlying35 t3 (by decide) ho rfl rfl (by omega) ?_
      refine R.nil ?_
      refine G.q rfl (Nat.le_of_ble_eq_true rfl) ?_
      refine R.ldE t3 ho hE rfl (int_at (by omega)) rfl hSO ?_
      refine R.nil ?_
      refine G.l rfl rfl (.inl rfl) (Nat.le_of_ble_eq_true rfl) ?_
      intro w7 hx7
      replace hS44 := hS44.ext hx7
      replace hB4 := hB4.ext hx7
      replace hE := hE.ext hx7
      replace hEs := hEs.ext hx7
      refine R.callE2 ent59 (rTakeP _ (hm.ext hE) hl5 hx10 htk) rfl rfl (fun _ _ hb => G.S1_lt (fun _ _ h => h.1) (Nat.le_trans hS0 hEs.size) hb) ?_
      rintro v56 w8 hx8 ⟨u56, us56, rfl, hM56⟩
      replace hS44 := hS44.ext hx8
      replace hB4 := hB4.ext hx8
      replace hE := hE.ext hx8
      replace hEs := hEs.ext hx8
      refine R.nil ⟨hx8.size, ?_⟩
      intro K7 hK7 hN7
      refine G.q rfl (Nat.le_of_ble_eq_true rfl) ?_
      refine R.move ?_
      refine R.nil ?_
      refine G.q rfl (Nat.le_of_ble_eq_true rfl) ?_
      refine R.extract rfl rfl ?_
      refine R.nil ?_
      refine G.q rfl (Nat.le_of_ble_eq_true rfl) ?_
      refine R.extract rfl rfl ?_
      refine R.nil ?_
      refine G.alloc t54 ?_
      intro w9 b15 K9 hx9 hb15 hn15 hK9 hk15 hB15
      have ne4_15 : b4 ≠ b15 := by have h1 := hB4s.lt; rw [hh6] at h1; omega
      have hn015 := hb15
      replace hb15 := Nat.le_trans hW0 hb15
      replace hS44 := hS44.ext hx9
      replace hM56 := hM56.ext hx9
      replace hB4 := hB4.ext hx9
      replace hE := hE.ext hx9
      replace hEs := hEs.ext hx9
      replace hB15 : Blk _ b15 54 #[.slice none 0 0, .int .i64 0] := hB15
      refine G.l rfl rfl (.inr rfl) (Nat.le_of_ble_eq_true rfl) ?_
      intro w10 hx10
      replace hS44 := hS44.ext hx10
      replace hM56 := hM56.ext hx10
      replace hB4 := hB4.ext hx10
      replace hB15 := hB15.ext hx10
      replace hE := hE.ext hx10
      replace hEs := hEs.ext hx10
      refine R.storeA t54 hB15 rfl rfl rfl rfl (ones2 hM56.row.one rfl) (fun _ h => G.S1_new (fun _ _ h => h.1) hn015 hk15 h) ?_
      intro w11 hU11 hs11 hN11
      replace hEs := hEs.trans hU11 (fun c hc h => by have h1 : c = b15 := h; rw [hh6] at hc; omega)
      replace hS44 := hS44.upT hU11 hB15 (by decide)
      replace hM56 := hM56.upT hU11 hB15 (by decide)
      replace hB4 := hB4.up hU11 (fun h => ne4_15 h)
      replace hE := hE.own hU11 hb15
      replace hB15 : Blk _ b15 54 #[u56, .int .i64 H] := hN11
      clear hN11
      refine R.nil ⟨hU11.size, ?_⟩
      intro K10 hK10 hN10
      replace hk15 := hK10 _ hk15
      refine G.q rfl (Nat.le_of_ble_eq_true rfl) ?_
      refine R.assign ?_
      refine R.nil ?_
      refine G.nil ?_
      refine E.seq ?_
      refine E.regionP rfl ?_
      refine R.loadA t54 hB15 rfl rfl rfl trivial ?_
      refine R.move ?_
      refine R.move ?_
      refine R.addN (m := nx) (n := 1) rfl rfl (by omega) ?_
      refine R.move ?_
      refine R.callE4 ent100 (ih (ord.length - (nx + 1) + left) (by omega) _ u56 vo us56 _ (nx + 1) left rfl hG1 (by omega) hlf hM56.mat (ho.ext hE)) rfl rfl rfl rfl nofun ?_
      rintro v65 w12 hx12 ⟨u65, ss65, rfl, hS65, hf65, hl65, hq65⟩
      replace hS44 := hS44.ext hx12
      replace hM56 := hM56.ext hx12
      replace hB4 := hB4.ext hx12
      replace hB15 := hB15.ext hx12
      replace hE := hE.ext hx12
      refine R.move ?_
      refine R.extract rfl rfl ?_
      refine R.extract rfl rfl ?_
      refine R.assign ?_
      refine R.assign ?_
      refine R.nil ?_
      refine E.seq ?_
      refine E.regionP rfl ?_
      refine R.move ?_
      refine R.move ?_
      refine R.ix (m := nx) Try.underlying35 t3 (by decide) ho rfl rfl hn ?_
      refine R.ld (j := nx) t3 (ho.ext hE) rfl (int_at hn) rfl (fun _ _ => trivial) ?_
      refine R.move ?_
      refine R.build build117 rfl ?_
      refine R.buildSlice [.agg #[.int .i64 ord[nx], .int .i64 ((a : Nat) : Int), .int .i64 (-1)]] Try.underlying78 t117 rfl rfl (by simp [Value.cells]) (by simp) nofun ?_
      intro b74 w13 hb74 hx13 hB74 hS74
      replace hb74 := Nat.le_trans hE.size hb74
      replace hS44 := hS44.ext hx13
      replace hM56 := hM56.ext hx13
      replace hS65 := hS65.ext hx13
      replace hB4 := hB4.ext hx13
      replace hB15 := hB15.ext hx13
      replace hE := hE.ext hx13
      refine R.move ?_
      have hfb74 : Fresh w (.slice (some ⟨b74, 0, none⟩) 1 1) := fun b e => by simp [vblk] at e; omega
      refine R.append (n := 1) (m := ss65.length) Try.underlying78 Try.underlying78 t117 (by decide) rfl hS74 hS65.row steps_one rfl rfl (by omega) (by omega) nofun ?_
      intro v76 w76 hU76 hS76 hd76
      have hf76 := Fresh.app' hE.size hfb74 hd76
      replace hE := hE.app hU76 hfb74
      have hW : Sl w76 117 3 v76 (ss65.length + 1) (stepsC ((ord[nx], ((a : Nat) : Int), -1) :: ss65)) := by
        rw [stepsC_cons, Nat.add_comm]
        simpa [cellsOf, Value.cells] using hS76
      clear hS74 hS76 hd76
      refine R.move ?_
      refine R.assign ?_
      refine R.assign ?_
      refine R.nil ?_
      refine E.ret ?_
      exact ret2 v76 (.bool _) rfl rfl rfl ⟨_, rfl, hE, v76, (ord[nx], ((a : Nat) : Int), -1) :: ss65, by rw [tryL_leave hO, Option.isSome_map], hW, hf76, by rw [List.length_cons]; omega, fun tt h => by
        rw [tryL_leave hO] at h
        obtain ⟨t1, h1, rfl⟩ := Option.map_eq_some_iff.1 h
        rw [hq65 _ h1]⟩
    · replace hc49 := dF hc49
      refine E.skip ?_
      refine E.seq ?_
      refine E.seq ?_
      refine E.regionP rfl ?_
      refine R.move ?_
      refine R.len Try.underlying35 hS44.row rfl ?_
      refine R.move ?_
      refine R.gtr rfl rfl rfl ?_
      refine R.nil ?_
      refine E.cond rfl (fun hc81 => ?_) (fun hc81 => ?_)
      · replace hc81 := dT hc81
        have hno := hO.many (left := left) (by omega)
        refine E.seq ?_
        refine E.regionP rfl ?_
        refine R.assign ?_
        refine R.assign ?_
        refine R.nil ?_
        refine E.ret ?_
        exact ret2 (.slice none 0 0) (.bool false) rfl rfl rfl ⟨_, rfl, hE, .slice none 0 0, [], by rw [hno]; rfl, Sl.nil _ _ _, Fresh.nil _, by simp, fun tt h => by rw [hno] at h; cases h⟩
      · replace hc81 := dF hc81
        obtain ⟨b, ov, rfl⟩ : ∃ b ov', ov = b :: ov' := by
          cases ov with
          | nil => simp at hc49
          | cons b ov => exact ⟨b, ov, rfl⟩
        simp only [List.length_cons] at hc81 hlen
        obtain ⟨m, rfl⟩ : ∃ m, left = m + 1 := ⟨left - 1, by omega⟩
        refine E.skip ?_
        refine E.seq ?_
        refine E.seq ?_
        refine E.regionP rfl ?_
        refine R.assign ?_
        refine R.nil ?_
        refine E.block ?_
        refine E.loop (fun n e wr => ∃ (i : Nat), n = ys.length - i ∧ i ≤ ys.length ∧ (List.range i).findSome? (tryG H ord ys nx m a b) = none ∧ Ext w wr ∧ Blk wr b4 54 #[v, .int .i64 H] ∧ SInts wr u44 (b :: ov) ∧ Has e [(1, vo), (2, .int .i64 (nx : Nat)), (3, .int .i64 ((m + 1 : Nat) : Int)), (4, .pointer (some ⟨b4, 0, none⟩)), (10, .int .i64 ((a : Nat) : Int)), (13, u44), (19, .int .i64 (i : Nat))]) (ys.length) ?_ ?_
        · exact ⟨0, rfl, Nat.zero_le _, rfl, hE, hB4, hS44, rfl, rfl, rfl, rfl, rfl, rfl, rfl, trivial⟩
        · rintro n e wr ⟨i, rfl, hi, hfn, hE, hB4, hS44, hH⟩
          obtain ⟨e, rfl⟩ := hH.ex
          clear hH
          refine E.seq ?_
          refine E.seq ?_
          refine E.regionP rfl ?_
          refine R.move ?_
          refine R.fld fa54_0 rfl ?_
          refine R.loadB t22 hB4 rfl rfl rfl trivial ?_
          refine R.len Try.underlying22 hm.row rfl ?_
          refine R.lss rfl rfl rfl ?_
          refine R.nil ?_
          refine E.cond rfl (fun hc86 => ?_) (fun hc86 => ?_)
          · replace hc86 := dT hc86
            have hi1 : i < ys.length := by omega
            refine E.skip ?_
            refine E.seq ?_
            refine E.block ?_
            refine E.seq ?_
            rcases Decidable.em (i = a ∨ (ys[i]'hi1).length = H) with hst | hst
            · refine E.regionP rfl ?_
              refine R.loadA t54 hB4 rfl rfl rfl trivial ?_
              refine R.move ?_
              refine R.move ?_
              refine R.build build53 rfl ?_
              refine R.callE2 ent58 (rShiftP _ (hm.ext hE) hl5 hx10 (hrl.shiftR_no (f := ((a : Nat) : Int)) (t := ((i : Nat) : Int)) (hO.stuck hi1 hst))) rfl rfl nofun ?_
              rintro v94 w14 hx14 ⟨u94, us94, rfl, hM94⟩
              replace hS44 := hS44.ext hx14
              replace hB4 := hB4.ext hx14
              replace hE := hE.ext hx14
              refine R.move ?_
              refine R.extract rfl rfl ?_
              refine R.extract rfl rfl ?_
              refine R.alloc t54 nofun ?_
              intro b20 w15 hb20 hx15 hB20
              have ne4_20 : b4 ≠ b20 := by have := hB4.lt; omega
              replace hb20 := Nat.le_trans hE.size hb20
              replace hS44 := hS44.ext hx15
              replace hM94 := hM94.ext hx15
              replace hB4 := hB4.ext hx15
              replace hE := hE.ext hx15
              replace hB20 : Blk _ b20 54 #[.slice none 0 0, .int .i64 0] := hB20
              refine R.storeA t54 hB20 rfl rfl rfl rfl (ones2 hM94.row.one rfl) nofun ?_
              intro w16 hU16 hs16 hN16
              replace hS44 := hS44.upT hU16 hB20 (by decide)
              replace hM94 := hM94.upT hU16 hB20 (by decide)
              replace hB4 := hB4.up hU16 (fun h => ne4_20 h)
              replace hE := hE.own hU16 hb20
              replace hB20 : Blk _ b20 54 #[u94, .int .i64 0] := hN16
              clear hN16
              refine R.assign ?_
              refine R.nil ?_
              refine E.seq ?_
              refine E.seq ?_
              refine E.regionP rfl ?_
              refine R.move ?_
              refine R.neq (b := true) rfl rfl (by simpa using hO.stuck hi1 hst) ?_
              refine R.nil ?_
              refine E.condT rfl ?_
              refine E.exit ?_
              refine E.regionP rfl ?_
              refine R.move ?_
              refine R.addN (n := 1) rfl rfl (by omega) ?_
              refine R.assign ?_
              refine R.nil ?_
              exact ⟨ys.length - (i + 1), by omega, i + 1, rfl, by omega, find_miss hfn (by unfold tryG; rw [if_pos (by rw [show ys.getD i [] = ys[i] by simp [hi1]]; exact hst)]), hE, hB4, hS44, rfl, rfl, rfl, rfl, rfl, rfl, rfl, trivial⟩
            · obtain ⟨hO1, hsh, hdo⟩ := hO.next hi1 (by omega) (by omega)
              have hG1 := hO1.good
              refine E.regionP rfl ?_
              refine R.loadA t54 hB4 rfl rfl rfl trivial ?_
              refine R.move ?_
              refine R.move ?_
              refine R.build build53 rfl ?_
              refine R.callE2 ent58 (rShiftP _ (hm.ext hE) hl5 hx10 (hrl.shiftR_ok (f := ((a : Nat) : Int)) (t := ((i : Nat) : Int)) hsh)) rfl rfl nofun ?_
              rintro v94 w17 hx17 ⟨u94, us94, rfl, hM94⟩
              replace hS44 := hS44.ext hx17
              replace hB4 := hB4.ext hx17
              replace hE := hE.ext hx17
              refine R.move ?_
              refine R.extract rfl rfl ?_
              refine R.extract rfl rfl ?_
              refine R.alloc t54 nofun ?_
              intro b20 w18 hb20 hx18 hB20
              have ne4_20 : b4 ≠ b20 := by have := hB4.lt; omega
              replace hb20 := Nat.le_trans hE.size hb20
              replace hS44 := hS44.ext hx18
              replace hM94 := hM94.ext hx18
              replace hB4 := hB4.ext hx18
              replace hE := hE.ext hx18
              replace hB20 : Blk _ b20 54 #[.slice none 0 0, .int .i64 0] := hB20
              refine R.storeA t54 hB20 rfl rfl rfl rfl (ones2 hM94.row.one rfl) nofun ?_
              intro w19 hU19 hs19 hN19
              replace hS44 := hS44.upT hU19 hB20 (by decide)
              replace hM94 := hM94.upT hU19 hB20 (by decide)
              replace hB4 := hB4.up hU19 (fun h => ne4_20 h)
              replace hE := hE.own hU19 hb20
              replace hB20 : Blk _ b20 54 #[u94, .int .i64 H] := hN19
              clear hN19
              refine R.assign ?_
              refine R.nil ?_
              refine E.seq ?_
              refine E.seq ?_
              refine E.regionP rfl ?_
              refine R.move ?_
              refine R.neq (b := false) rfl rfl (by simp) ?_
              refine R.nil ?_
              refine E.condF rfl ?_
              refine E.skip ?_
              refine E.seq ?_
              refine E.regionP rfl ?_
              refine R.loadA t54 hB20 rfl rfl rfl trivial ?_
              refine R.move ?_
              refine R.move ?_
              refine R.move ?_
              refine R.subN (m := m + 1) (n := 1) rfl rfl (by omega) (by omega) ?_
              refine R.callE4 ent100 (ih (ord.length - nx + m) (by omega) _ u94 vo us94 _ nx m rfl hG1 hnx (by omega) hM94.mat (ho.ext hE)) rfl rfl rfl rfl nofun ?_
              rintro v105 w20 hx20 ⟨u105, ss105, rfl, hS105, hf105, hl105, hq105⟩
              replace hS44 := hS44.ext hx20
              replace hM94 := hM94.ext hx20
              replace hB4 := hB4.ext hx20
              replace hB20 := hB20.ext hx20
              replace hE := hE.ext hx20
              refine R.move ?_
              refine R.extract rfl rfl ?_
              refine R.extract rfl rfl ?_
              refine R.assign ?_
              refine R.assign ?_
              refine R.nil ?_
              refine E.seq ?_
              refine E.regionP rfl ?_
              refine R.move ?_
              refine R.nil ?_
              refine E.cond rfl (fun hc108 => ?_) (fun hc108 => ?_)
              · obtain ⟨tt, hT⟩ := Option.isSome_iff_exists.1 hc108
                obtain rfl := hq105 tt hT
                refine E.seq ?_
                refine E.regionP rfl ?_
                refine R.move ?_
                refine R.ix (m := 0) Try.underlying35 t3 (by decide) hS44.row rfl rfl (by simp) ?_
                refine R.ld (j := 0) (u := .int .i64 b) t3 hS44.row rfl rfl rfl (fun _ _ => trivial) ?_
                refine R.move ?_
                refine R.move ?_
                refine R.build build117 rfl ?_
                refine R.buildSlice [.agg #[.int .i64 b, .int .i64 ((a : Nat) : Int), .int .i64 ((i : Nat) : Int)]] Try.underlying78 t117 rfl rfl (by simp [Value.cells]) (by simp) nofun ?_
                intro b115 w21 hb115 hx21 hB115 hS115
                replace hb115 := Nat.le_trans hE.size hb115
                replace hS44 := hS44.ext hx21
                replace hM94 := hM94.ext hx21
                replace hS105 := hS105.ext hx21
                replace hB4 := hB4.ext hx21
                replace hB20 := hB20.ext hx21
                replace hE := hE.ext hx21
                refine R.move ?_
                have hfb115 : Fresh w (.slice (some ⟨b115, 0, none⟩) 1 1) := fun b e => by simp [vblk] at e; omega
                refine R.append (n := 1) (m := ss105.length) Try.underlying78 Try.underlying78 t117 (by decide) rfl hS115 hS105.row steps_one rfl rfl (by omega) (by omega) nofun ?_
                intro v117 w117 hU117 hS117 hd117
                have hf117 := Fresh.app' hE.size hfb115 hd117
                replace hE := hE.app hU117 hfb115
                have hW : Sl w117 117 3 v117 (ss105.length + 1) (stepsC ((b, ((a : Nat) : Int), ((i : Nat) : Int)) :: ss105)) := by
                  rw [stepsC_cons, Nat.add_comm]
                  simpa [cellsOf, Value.cells] using hS117
                clear hS115 hS117 hd117
                refine R.assign ?_
                refine R.assign ?_
                refine R.nil ?_
                refine E.ret ?_
                have hhit : tryL H ord ys nx (m + 1) = some ((b, ((a : Nat) : Int), ((i : Nat) : Int)) :: ss105) := by
                  rw [tryL_reloc hO]
                  refine find_hit hfn hi1 ?_
                  unfold tryG
                  rw [if_neg (by rw [show ys.getD i [] = ys[i] by simp [hi1]]; exact hst), hT]
                  rfl
                exact ret2 v117 (.bool true) rfl rfl rfl ⟨_, rfl, hE, v117, (b, ((a : Nat) : Int), ((i : Nat) : Int)) :: ss105, by rw [hhit]; rfl, hW, hf117, by rw [List.length_cons]; omega, fun tt h => by rw [hhit] at h; exact Option.some.inj h⟩
              · have hT : tryL H ord (shiftL ys H a i).1 nx m = none := by simpa using hc108
                refine E.skip ?_
                refine E.regionP rfl ?_
                refine R.move ?_
                refine R.addN (n := 1) rfl rfl (by omega) ?_
                refine R.assign ?_
                refine R.nil ?_
                exact ⟨ys.length - (i + 1), by omega, i + 1, rfl, by omega, find_miss hfn (by unfold tryG; rw [if_neg (by rw [show ys.getD i [] = ys[i] by simp [hi1]]; exact hst), hT]; rfl), hE, hB4, hS44, rfl, rfl, rfl, rfl, rfl, rfl, rfl, trivial⟩
          · replace hc86 := dF hc86
            obtain rfl : i = ys.length := by omega
            have hno : tryL H ord ys nx (m + 1) = none := by rw [tryL_reloc hO]; exact hfn
            refine E.exit ?_
            refine E.seq ?_
            refine E.regionP rfl ?_
            refine R.assign ?_
            refine R.assign ?_
            refine R.nil ?_
            refine E.ret ?_
            exact ret2 (.slice none 0 0) (.bool false) rfl rfl rfl ⟨_, rfl, hE, .slice none 0 0, [], by rw [hno]; rfl, Sl.nil _ _ _, Fresh.nil _, by simp, fun tt h => by rw [hno] at h; cases h⟩
set_option maxHeartbeats 3200000 in
theorem rLeastF (w : World) {v vo : Value} {h : Int} {us : List Value} {xss : List (List Int)} {ord : List Int} (hm : Mat w v us xss) (ho : Ints w vo ord) (hl : xss.length < 100000) (hx : ∀ xs ∈ xss, xs.length ≤ 10) (hol : ord.length < 100000) :
    Calls Try.prog 87 #[.agg #[v, .int .i64 h], vo] w (Ret fun r w' => Ext w w' ∧ ∃ u, r = .tuple #[u, .int .i64 (leastR xss h ord).2] ∧ Steps w' u (leastR xss h ord).1) := by
  cases hb : beginB xss h ord
  rotate_left
  · obtain ⟨hRP, hOP⟩ := beginB_right hb
    obtain ⟨H, rfl, hH0, hH6, hl30, hl1, hxH⟩ := rightB_nat hRP.b
    have hLR : leastR xss H ord = (if 6 < xss.flatten.length ∨ 4 < xss.length then (([], 5) : List (Int × Int × Int) × Int) else match leastS H ord xss with
          | some ss => (ss, 0)
          | none => ([], 4)) := by unfold leastR; rw [if_pos hb]; rfl
    refine calls_E (args := [.agg #[v, .int .i64 H], vo]) 36 Try.func87 rfl rfl (by simp) ?_
    have hE : Ext w w := Upd.refl w
    refine E.seq ?_
    refine E.regionP rfl ?_
    refine R.box rfl nofun ?_
    intro b2 w1 hb2 hx1 hB2
    replace hb2 := Nat.le_trans hE.size hb2
    replace hE := hE.ext hx1
    replace hB2 : Blk _ b2 54 #[v, .int .i64 H] := hB2
    refine R.assign ?_
    refine R.assign ?_
    refine R.nil ?_
    refine E.seq ?_
    refine E.seq ?_
    refine E.regionP rfl ?_
    refine R.loadA t54 hB2 rfl rfl rfl trivial ?_
    refine R.move ?_
    refine R.callE2 ent88 (rRightO _ (hm.ext hE) (ho.ext hE) hl hx (by omega)) rfl rfl nofun ?_
    rintro v11 w2 hx2 rfl
    rw [hb]
    replace hB2 := hB2.ext hx2
    replace hE := hE.ext hx2
    refine R.not rfl ?_
    refine R.nil ?_
    refine E.condF rfl ?_
    refine E.skip ?_
    refine E.seq ?_
    refine E.seq ?_
    rcases Nat.lt_or_ge 6 xss.flatten.length with h6 | h6
    rotate_left
    rcases Nat.lt_or_ge 4 xss.length with h4 | h4
    · refine E.regionP rfl ?_
      refine R.loadA t54 hB2 rfl rfl rfl trivial ?_
      refine R.callE1 ent90 (rBoxes _ (hm.ext hE) hl hx) rfl nofun ?_
      rintro v14 w3 hx3 ⟨hS14, hf14⟩
      replace hB2 := hB2.ext hx3
      replace hE := hE.ext hx3
      refine R.len Try.underlying35 hS14.row rfl ?_
      refine R.gtr (b := false) rfl rfl (decide_eq_false (by omega)) ?_
      refine R.move ?_
      refine R.gT rfl rfl ?_
      refine R.fld fa54_0 rfl ?_
      refine R.gT rfl rfl ?_
      refine R.loadB t22 hB2 rfl rfl rfl trivial ?_
      refine R.gT rfl rfl ?_
      refine R.len Try.underlying22 hm.row rfl ?_
      refine R.gT rfl rfl ?_
      refine R.gtr (b := true) rfl rfl (decide_eq_true (by omega)) ?_
      refine R.pickF rfl ?_
      refine R.nil ?_
      refine E.condT rfl ?_
      refine E.seq ?_
      refine E.regionP rfl ?_
      refine R.assign ?_
      refine R.assign ?_
      refine R.nil ?_
      refine E.ret ?_
      exact ret2 (.slice none 0 0) (.int .i64 5) rfl rfl rfl ⟨_, rfl, hE, _, by rw [hLR, if_pos (.inr h4)], by rw [hLR, if_pos (.inr h4)]; exact Row.nil _ _⟩
    · refine E.regionP rfl ?_
      refine R.loadA t54 hB2 rfl rfl rfl trivial ?_
      refine R.callE1 ent90 (rBoxes _ (hm.ext hE) hl hx) rfl nofun ?_
      rintro v14 w4 hx4 ⟨hS14, hf14⟩
      replace hB2 := hB2.ext hx4
      replace hE := hE.ext hx4
      refine R.len Try.underlying35 hS14.row rfl ?_
      refine R.gtr (b := false) rfl rfl (decide_eq_false (by omega)) ?_
      refine R.move ?_
      refine R.gT rfl rfl ?_
      refine R.fld fa54_0 rfl ?_
      refine R.gT rfl rfl ?_
      refine R.loadB t22 hB2 rfl rfl rfl trivial ?_
      refine R.gT rfl rfl ?_
      refine R.len Try.underlying22 hm.row rfl ?_
      refine R.gT rfl rfl ?_
      refine R.gtr (b := false) rfl rfl (decide_eq_false (by omega)) ?_
      refine R.pickF rfl ?_
      refine R.nil ?_
      refine E.condF rfl ?_
      refine E.skip ?_
      refine E.seq ?_
      refine E.seq ?_
      refine E.regionP rfl ?_
      refine R.assign ?_
      refine R.nil ?_
      refine E.block ?_
      refine E.loop (fun n e wr => ∃ (m : Nat), n = 16 - m ∧ m ≤ 16 ∧ (List.range m).findSome? (fun m => tryL H ord xss 0 m) = none ∧ Ext w wr ∧ Blk wr b2 54 #[v, .int .i64 H] ∧ Has e [(1, vo), (2, .pointer (some ⟨b2, 0, none⟩)), (6, .int .i64 (m : Nat))]) (16) ?_ ?_
      · rw [if_neg (by omega)] at hLR
        have hol1 : ord.length < 1000 := by have := hOP.few; omega
        have hG := GoodJ.start hb
        exact ⟨0, rfl, Nat.zero_le _, rfl, hE, hB2, rfl, rfl, rfl, trivial⟩
      · rintro n e wr ⟨m, rfl, hm1, hfn, hE, hB2, hH⟩
        obtain ⟨e, rfl⟩ := hH.ex
        clear hH
        rw [if_neg (by omega)] at hLR
        have hol1 : ord.length < 1000 := by have := hOP.few; omega
        have hG := GoodJ.start hb
        refine E.seq ?_
        refine E.seq ?_
        refine E.regionP rfl ?_
        refine R.move ?_
        refine R.leq rfl rfl rfl ?_
        refine R.nil ?_
        refine E.cond rfl (fun hc24 => ?_) (fun hc24 => ?_)
        · replace hc24 := dT hc24
          have hm16 : m < 16 := by omega
          refine E.skip ?_
          refine E.seq ?_
          refine E.block ?_
          refine E.seq ?_
          refine E.regionP rfl ?_
          refine R.loadA t54 hB2 rfl rfl rfl trivial ?_
          refine R.move ?_
          refine R.move ?_
          refine R.callE4 ent100 (rWithin hol1 (ord.length - 0 + m) _ v vo us xss 0 m rfl hG (Nat.zero_le _) (by omega) (hm.ext hE) (ho.ext hE)) rfl rfl rfl rfl nofun ?_
          rintro v31 w5 hx5 ⟨u31, ss31, rfl, hS31, hf31, hl31, hq31⟩
          replace hB2 := hB2.ext hx5
          replace hE := hE.ext hx5
          refine R.move ?_
          refine R.extract rfl rfl ?_
          refine R.extract rfl rfl ?_
          refine R.assign ?_
          refine R.assign ?_
          refine R.nil ?_
          refine E.seq ?_
          refine E.regionP rfl ?_
          refine R.move ?_
          refine R.nil ?_
          refine E.cond rfl (fun hc34 => ?_) (fun hc34 => ?_)
          · obtain ⟨tt, hT⟩ := Option.isSome_iff_exists.1 hc34
            obtain rfl := hq31 tt hT
            rw [show leastS H ord xss = some ss31 from find_hit hfn hm16 hT] at hLR
            replace hLR : leastR xss H ord = (ss31, 0) := hLR
            refine E.seq ?_
            refine E.regionP rfl ?_
            refine R.move ?_
            refine R.assign ?_
            refine R.assign ?_
            refine R.nil ?_
            refine E.ret ?_
            exact ret2 u31 (.int .i64 0) rfl rfl rfl ⟨_, rfl, hE, u31, by rw [hLR], by rw [hLR]; exact hS31.row⟩
          · have hT : tryL H ord xss 0 m = none := by simpa using hc34
            refine E.skip ?_
            refine E.regionP rfl ?_
            refine R.move ?_
            refine R.addN (n := 1) rfl rfl (by omega) ?_
            refine R.assign ?_
            refine R.nil ?_
            exact ⟨16 - (m + 1), by omega, m + 1, rfl, by omega, find_next hfn hT, hE, hB2, rfl, rfl, rfl, trivial⟩
        · replace hc24 := dF hc24
          obtain rfl : m = 16 := by omega
          rw [show leastS H ord xss = none from hfn] at hLR
          replace hLR : leastR xss H ord = ([], 4) := hLR
          refine E.exit ?_
          refine E.seq ?_
          refine E.regionP rfl ?_
          refine R.assign ?_
          refine R.assign ?_
          refine R.nil ?_
          refine E.ret ?_
          exact ret2 (.slice none 0 0) (.int .i64 4) rfl rfl rfl ⟨_, rfl, hE, _, by rw [hLR], by rw [hLR]; exact Row.nil _ _⟩
    · refine E.regionP rfl ?_
      refine R.loadA t54 hB2 rfl rfl rfl trivial ?_
      refine R.callE1 ent90 (rBoxes _ (hm.ext hE) hl hx) rfl nofun ?_
      rintro v14 w6 hx6 ⟨hS14, hf14⟩
      replace hB2 := hB2.ext hx6
      replace hE := hE.ext hx6
      refine R.len Try.underlying35 hS14.row rfl ?_
      refine R.gtr (b := true) rfl rfl (decide_eq_true (by omega)) ?_
      refine R.move ?_
      refine R.gF rfl rfl rfl ?_
      refine R.gF rfl rfl rfl ?_
      refine R.gF rfl rfl rfl ?_
      refine R.gF rfl rfl rfl ?_
      refine R.pickT rfl ?_
      refine R.nil ?_
      refine E.condT rfl ?_
      refine E.seq ?_
      refine E.regionP rfl ?_
      refine R.assign ?_
      refine R.assign ?_
      refine R.nil ?_
      refine E.ret ?_
      exact ret2 (.slice none 0 0) (.int .i64 5) rfl rfl rfl ⟨_, rfl, hE, _, by rw [hLR, if_pos (.inl h6)], by rw [hLR, if_pos (.inl h6)]; exact Row.nil _ _⟩
  · refine calls_E (args := [.agg #[v, .int .i64 h], vo]) 36 Try.func87 rfl rfl (by simp) ?_
    have hE : Ext w w := Upd.refl w
    refine E.seq ?_
    refine E.regionP rfl ?_
    refine R.box rfl nofun ?_
    intro b2 w1 hb2 hx1 hB2
    replace hb2 := Nat.le_trans hE.size hb2
    replace hE := hE.ext hx1
    replace hB2 : Blk _ b2 54 #[v, .int .i64 h] := hB2
    refine R.assign ?_
    refine R.assign ?_
    refine R.nil ?_
    refine E.seq ?_
    refine E.seq ?_
    refine E.regionP rfl ?_
    refine R.loadA t54 hB2 rfl rfl rfl trivial ?_
    refine R.move ?_
    refine R.callE2 ent88 (rRightO _ (hm.ext hE) (ho.ext hE) hl hx (by omega)) rfl rfl nofun ?_
    rintro v11 w2 hx2 rfl
    rw [hb]
    replace hB2 := hB2.ext hx2
    replace hE := hE.ext hx2
    refine R.not rfl ?_
    refine R.nil ?_
    refine E.condT rfl ?_
    refine E.seq ?_
    refine E.regionP rfl ?_
    refine R.assign ?_
    refine R.assign ?_
    refine R.nil ?_
    refine E.ret ?_
    exact ret2 (.slice none 0 0) (.int .i64 2) rfl rfl rfl ⟨_, rfl, hE, .slice none 0 0, by simp [leastR, hb], by rw [show leastR xss h ord = ([], 2) by simp [leastR, hb]]; exact Row.nil _ _⟩
end Go.Proofs.Ytfdmndkoiheebaa
