import Derived.Test.YtfdmndkoiheebaaZ16J13
import Derived.Test.YtfdmndkoiheebaaZ16Yard
import Derived.Test.YtfdmndkoiheebaaZ16J16
namespace Go.Proofs.Ytfdmndkoiheebaa
open Go Go.RowKit
theorem Lent.upT {w w' : World} {v : Value} {xs : List Int} {b : Nat} {ty : TypeId} {cs : Array Value} (h : Lent w v xs) (u : Upd (Ytfdmndkoiheebaa.one b) w w') (hb : Blk w b ty cs) (hne : 3 ≠ ty) : Lent w' v xs := by
  obtain ⟨v0, h, e⟩ := h; exact ⟨v0, h.upT u hb hne, e⟩
set_option maxHeartbeats 1600000 in
theorem checks_ (w : World) {v vo vss : Value} {h : Int} {us : List Value} {xss : List (List Int)} {ord : List Int} {ss : List (Int × Int × Int)} (hm : Mat w v us xss) (ho : Ints w vo ord) (hss : Steps w vss ss) (hF : Fit xss) (hol : ord.length < 10000) (hsl : ss.length < 10000) :
    Calls Try.prog 43 #[.agg #[v, .int .i64 h], vo, vss] w (Ret fun r w' => Ext w w' ∧ r = .bool true) := by
  have hF1 := hF.1
  refine calls_E (args := [.agg #[v, .int .i64 h], vo, vss]) 73 Try.func43 rfl rfl (by simp) ?_
  have hE : Ext w w := Upd.refl w
  refine E.seq ?_
  refine E.regionP rfl ?_
  refine R.box rfl nofun ?_
  intro b3 w1 hb3 hx1 hB3
  replace hb3 := Nat.le_trans hE.size hb3
  replace hE := hE.ext hx1
  replace hB3 : Blk _ b3 24 #[v, .int .i64 h] := hB3
  refine R.assign ?_
  refine R.nil ?_
  refine E.seq ?_
  refine E.regionP rfl ?_
  refine R.loadA t24 hB3 rfl rfl rfl trivial ?_
  refine R.callE1 ent30 (own _ (hm.ext hE) hF.l6 hF.x6) rfl nofun ?_
  rintro v17 w2 hx2 ⟨u17, rfl, hL17, hf17⟩
  replace hB3 := hB3.ext hx2
  replace hE := hE.ext hx2
  refine R.move ?_
  refine R.callE1 ent81 (lentInts _ (ho.ext hE) (by omega)) rfl nofun ?_
  rintro v19 w3 hx3 ⟨hL19, hf19⟩
  replace hL17 := hL17.ext hx3
  replace hB3 := hB3.ext hx3
  replace hE := hE.ext hx3
  refine R.buildSlice [] Try.underlying62 t68 rfl rfl (by simp) (by simp) nofun ?_
  intro b20 w4 hb20 hx4 hB20 hS20
  replace hb20 := Nat.le_trans hE.size hb20
  replace hL17 := hL17.ext hx4
  replace hL19 := hL19.ext hx4
  replace hB3 := hB3.ext hx4
  replace hE := hE.ext hx4
  refine R.move ?_
  refine R.append (m := ss.length) Try.underlying62 Try.underlying62 t68 (by decide) rfl hS20 (hss.ext hE) steps_one rfl rfl (by simp; omega) (by simp; omega) nofun ?_
  intro v22 w22 hU22 hS22 hd22
  replace hL17 := hL17.upS hU22 hS20 (by decide)
  replace hL19 := hL19.upS hU22 hS20 (by decide)
  replace hB3 := hB3.upS hU22 hS20 (by decide)
  replace hE := hE.trans hU22 (fun b hb h => by simp [vblk] at h; omega)
  have hQ22 : Sl w22 68 3 v22 ss.length (stepsC ss) := by simpa [cellsOf] using hS22
  clear hS20 hS22 hd22
  refine R.alloc t24 nofun ?_
  intro b7 w5 hb7 hx5 hB7
  have ne3_7 : b3 ≠ b7 := by have := hB3.lt; omega
  replace hb7 := Nat.le_trans hE.size hb7
  replace hL17 := hL17.ext hx5
  replace hL19 := hL19.ext hx5
  replace hQ22 := hQ22.ext hx5
  replace hB3 := hB3.ext hx5
  replace hE := hE.ext hx5
  replace hB7 : Blk _ b7 24 #[.slice none 0 0, .int .i64 0] := hB7
  refine R.storeA t24 hB7 rfl rfl rfl rfl (ones2 hL17.one rfl) nofun ?_
  intro w6 hU6 hs6 hN6
  replace hL17 := hL17.upT hU6 hB7 (by decide)
  replace hL19 := hL19.upT hU6 hB7 (by decide)
  replace hQ22 := hQ22.upT hU6 hB7 (by decide)
  replace hB3 := hB3.up hU6 (fun h => ne3_7 h)
  replace hE := hE.own hU6 hb7
  replace hB7 : Blk _ b7 24 #[u17, .int .i64 h] := hN6
  clear hN6
  refine R.assign ?_
  refine R.assign ?_
  refine R.nil ?_
  refine E.seq ?_
  refine E.regionP rfl ?_
  refine R.loadA t24 hB7 rfl rfl rfl trivial ?_
  refine R.move ?_
  refine R.move ?_
  refine R.callE3 ent46 (yCheck _ hL17.mat.choose_spec hL19.ints hQ22.row hF.l6 hF.x6 (by omega) (by omega)) rfl rfl rfl nofun ?_
  rintro v27 w7 hx7 rfl
  replace hL17 := hL17.ext hx7
  replace hL19 := hL19.ext hx7
  replace hQ22 := hQ22.ext hx7
  replace hB3 := hB3.ext hx7
  replace hB7 := hB7.ext hx7
  replace hE := hE.ext hx7
  refine R.move ?_
  refine R.extract rfl rfl ?_
  refine R.extract rfl rfl ?_
  refine R.assign ?_
  refine R.assign ?_
  refine R.nil ?_
  refine E.seq ?_
  refine E.regionP rfl ?_
  refine R.assign ?_
  refine R.nil ?_
  refine E.seq ?_
  refine E.seq ?_
  refine E.regionP rfl ?_
  refine R.assign ?_
  refine R.nil ?_
  refine E.block ?_
  refine E.loop (fun n e wr => ∃ (i : Nat) (ov : Value), n = ss.length - i ∧ i ≤ ss.length ∧ Ext w wr ∧ LentM wr u17 xss ∧ Lent wr v19 ord ∧ Sl wr 68 3 v22 ss.length (stepsC ss) ∧ Sl wr 117 3 ov i (stepsC (ss.take i)) ∧ Fresh w ov ∧ Blk wr b3 24 #[v, .int .i64 h] ∧ Blk wr b7 24 #[u17, .int .i64 h] ∧ Has e [(1, vo), (2, vss), (3, .pointer (some ⟨b3, 0, none⟩)), (7, .pointer (some ⟨b7, 0, none⟩)), (8, v19), (9, v22), (10, .int .i64 ((checkR xss h ord ss).1 : Nat)), (11, .int .i64 (checkR xss h ord ss).2), (12, ov), (13, .int .i64 (i : Nat))]) (ss.length) ?_ ?_
  · exact ⟨0, _, rfl, Nat.zero_le _, hE, hL17, hL19, hQ22, Sl.nil _ _ _, Fresh.nil _, hB3, hB7, rfl, rfl, rfl, rfl, rfl, rfl, rfl, rfl, rfl, rfl, trivial⟩
  · rintro n e wr ⟨i, ov, rfl, hi, hE, hL17, hL19, hQ22, hW, hf, hB3, hB7, hH⟩
    obtain ⟨e, rfl⟩ := hH.ex
    clear hH
    refine E.seq ?_
    refine E.seq ?_
    refine E.regionP rfl ?_
    refine R.move ?_
    refine R.move ?_
    refine R.len Try.underlying62 hss rfl ?_
    refine R.lss rfl rfl rfl ?_
    refine R.nil ?_
    refine E.cond rfl (fun hc33 => ?_) (fun hc33 => ?_)
    · replace hc33 := dT hc33
      have hi1 : i < ss.length := by omega
      have hmin : min i ss.length = i := by omega
      refine E.skip ?_
      refine E.seq ?_
      refine E.block ?_
      refine E.regionP rfl ?_
      refine R.move ?_
      refine R.move ?_
      refine R.move ?_
      refine R.ix Try.underlying62 t68 (by decide) hss rfl rfl (by omega) ?_
      refine R.ldS t68 hss hE (by omega) rfl rfl (fun _ _ => trivial) ?_
      refine R.buildSlice [.agg #[.int .i64 ss[i].1, .int .i64 ss[i].2.1, .int .i64 ss[i].2.2]] Try.underlying78 t117 rfl rfl (by simp [Value.cells]) (by simp) nofun ?_
      intro b41 w8 hb41 hx8 hB41 hS41
      replace hb41 := Nat.le_trans hE.size hb41
      replace hL17 := hL17.ext hx8
      replace hL19 := hL19.ext hx8
      replace hQ22 := hQ22.ext hx8
      replace hW := hW.ext hx8
      replace hB3 := hB3.ext hx8
      replace hB7 := hB7.ext hx8
      replace hE := hE.ext hx8
      refine R.append (m := 1) Try.underlying78 Try.underlying78 t117 (by decide) rfl hW hS41.row (by simp [cellsOf, Value.cells, Value.oneCell']) rfl rfl (by omega) (by omega) nofun ?_
      intro v42 w42 hU42 hS42 hd42
      replace hL17 := hL17.upS hU42 hW (by decide)
      replace hL19 := hL19.upS hU42 hW (by decide)
      replace hQ22 := hQ22.upS hU42 hW (by decide)
      replace hB3 := hB3.upS hU42 hW (by decide)
      replace hB7 := hB7.upS hU42 hW (by decide)
      have hf42 := Fresh.app' hE.size hf hd42
      replace hE := hE.app hU42 hf
      replace hW : Sl w42 117 3 v42 (i + 1) (stepsC (ss.take (i + 1))) := by
        rw [take_snoc (List.getElem?_eq_getElem hi1), stepsC_snoc]
        simpa [cellsOf, Value.cells] using hS42
      clear hS41 hS42 hd42
      refine R.assign ?_
      refine R.nil ?_
      refine E.regionP rfl ?_
      refine R.move ?_
      refine R.addN (n := 1) rfl rfl (by omega) ?_
      refine R.assign ?_
      refine R.nil ?_
      exact ⟨ss.length - (i + 1), by omega, i + 1, v42, rfl, by omega, hE, hL17, hL19, hQ22, hW, hf42, hB3, hB7, rfl, rfl, rfl, rfl, rfl, rfl, rfl, rfl, rfl, rfl, trivial⟩
    · replace hc33 := dF hc33
      obtain rfl : i = ss.length := by omega
      rw [List.take_length] at hW
      refine E.exit ?_
      refine E.seq ?_
      refine E.regionP rfl ?_
      refine R.loadA t24 hB3 rfl rfl rfl trivial ?_
      refine R.move ?_
      refine R.move ?_
      refine R.callE3 ent82 (rCheck _ (hm.ext hE) (ho.ext hE) hW.row (by omega) hF.2 (by omega) (by omega)) rfl rfl rfl nofun ?_
      rintro v47 w9 hx9 rfl
      replace hL17 := hL17.ext hx9
      replace hL19 := hL19.ext hx9
      replace hQ22 := hQ22.ext hx9
      replace hW := hW.ext hx9
      replace hB3 := hB3.ext hx9
      replace hB7 := hB7.ext hx9
      replace hE := hE.ext hx9
      refine R.move ?_
      refine R.extract rfl rfl ?_
      refine R.extract rfl rfl ?_
      refine R.assign ?_
      refine R.assign ?_
      refine R.nil ?_
      refine E.seq ?_
      refine E.regionP rfl ?_
      refine R.move ?_
      refine R.move ?_
      refine R.eql (b := true) rfl rfl (by simp) ?_
      refine R.move ?_
      refine R.gT rfl rfl ?_
      refine R.move ?_
      refine R.gT rfl rfl ?_
      refine R.move ?_
      refine R.gT rfl rfl ?_
      refine R.eql (b := true) rfl rfl (by simp) ?_
      refine R.pickT rfl ?_
      refine R.move ?_
      refine R.gT rfl rfl ?_
      refine R.move ?_
      refine R.gT rfl rfl ?_
      refine R.move ?_
      refine R.gT rfl rfl ?_
      refine R.callE2 ent72 (same35t _ hQ22.row (hss.ext hE) (by omega)) rfl rfl nofun ?_
      rintro v61 w10 hx10 rfl
      replace hL17 := hL17.ext hx10
      replace hL19 := hL19.ext hx10
      replace hQ22 := hQ22.ext hx10
      replace hW := hW.ext hx10
      replace hB3 := hB3.ext hx10
      replace hB7 := hB7.ext hx10
      replace hE := hE.ext hx10
      refine R.pickT rfl ?_
      refine R.move ?_
      refine R.gT rfl rfl ?_
      refine R.loadA t24 hB7 rfl rfl rfl trivial ?_
      refine R.gT rfl rfl ?_
      refine R.loadA t24 hB3 rfl rfl rfl trivial ?_
      refine R.gT rfl rfl ?_
      refine R.callE2 ent33 (kept _ hL17 (hm.ext hE) hF.l6 hF.x6) rfl rfl nofun ?_
      rintro v66 w11 hx11 rfl
      replace hL17 := hL17.ext hx11
      replace hL19 := hL19.ext hx11
      replace hQ22 := hQ22.ext hx11
      replace hW := hW.ext hx11
      replace hB3 := hB3.ext hx11
      replace hB7 := hB7.ext hx11
      replace hE := hE.ext hx11
      refine R.pickT rfl ?_
      refine R.move ?_
      refine R.gT rfl rfl ?_
      refine R.move ?_
      refine R.gT rfl rfl ?_
      refine R.move ?_
      refine R.gT rfl rfl ?_
      refine R.callE2 ent83 (keptInts _ hL19 (ho.ext hE) (by omega)) rfl rfl nofun ?_
      rintro v71 w12 hx12 rfl
      replace hL17 := hL17.ext hx12
      replace hL19 := hL19.ext hx12
      replace hQ22 := hQ22.ext hx12
      replace hW := hW.ext hx12
      replace hB3 := hB3.ext hx12
      replace hB7 := hB7.ext hx12
      replace hE := hE.ext hx12
      refine R.pickT rfl ?_
      refine R.assign ?_
      refine R.nil ?_
      refine E.ret ?_
      exact ret1 (.bool true) rfl rfl ⟨_, rfl, hE, rfl⟩
end Go.Proofs.Ytfdmndkoiheebaa

namespace Go.Proofs.Ytfdmndkoiheebaa
open Go Go.RowKit
theorem runG_len {H : Nat} {ord : List Int} : ∀ (n : Nat) (xss : List (List Int)) (nx : Nat) (acc : List (Int × Int × Int)), (runG H ord n xss nx acc).1.length ≤ acc.length + n := by
  intro n
  induction n with
  | zero => intro xss nx acc; simp [runG]
  | succ n ih =>
    intro xss nx acc
    simp only [runG]
    split
    · split
      · split
        · refine Nat.le_trans (ih _ _ _) ?_; simp; omega
        · simp
      · split
        · simp
        · split
          · refine Nat.le_trans (ih _ _ _) ?_; simp; omega
          · simp
    · simp
theorem runR_len {xss : List (List Int)} {h : Int} {ord : List Int} : (runR xss h ord).1.length ≤ 7 * ord.length + 7 := by
  unfold runR
  split
  · simpa using runG_len (H := h.toNat) (ord := ord) (7 * ord.length + 7) xss 0 []
  · simp
set_option maxHeartbeats 1600000 in
theorem runs_ (w : World) {v vo : Value} {h : Int} {us : List Value} {xss : List (List Int)} {ord : List Int} (hm : Mat w v us xss) (ho : Ints w vo ord) (hF : Fit xss) (hol : ord.length < 10000) :
    Calls Try.prog 47 #[.agg #[v, .int .i64 h], vo] w (Ret fun r w' => Ext w w' ∧ r = .bool true) := by
  have hF1 := hF.1
  have hrl := runR_len (xss := xss) (h := h) (ord := ord)
  refine calls_E (args := [.agg #[v, .int .i64 h], vo]) 85 Try.func47 rfl rfl (by simp) ?_
  have hE : Ext w w := Upd.refl w
  refine E.seq ?_
  refine E.regionP rfl ?_
  refine R.box rfl nofun ?_
  intro b2 w1 hb2 hx1 hB2
  replace hb2 := Nat.le_trans hE.size hb2
  replace hE := hE.ext hx1
  replace hB2 : Blk _ b2 24 #[v, .int .i64 h] := hB2
  refine R.assign ?_
  refine R.nil ?_
  refine E.seq ?_
  refine E.regionP rfl ?_
  refine R.loadA t24 hB2 rfl rfl rfl trivial ?_
  refine R.callE1 ent30 (own _ (hm.ext hE) hF.l6 hF.x6) rfl nofun ?_
  rintro v18 w2 hx2 ⟨u18, rfl, hL18, hf18⟩
  replace hB2 := hB2.ext hx2
  replace hE := hE.ext hx2
  refine R.move ?_
  refine R.callE1 ent81 (lentInts _ (ho.ext hE) (by omega)) rfl nofun ?_
  rintro v20 w3 hx3 ⟨hL20, hf20⟩
  replace hL18 := hL18.ext hx3
  replace hB2 := hB2.ext hx3
  replace hE := hE.ext hx3
  refine R.alloc t24 nofun ?_
  intro b5 w4 hb5 hx4 hB5
  have ne2_5 : b2 ≠ b5 := by have := hB2.lt; omega
  replace hb5 := Nat.le_trans hE.size hb5
  replace hL18 := hL18.ext hx4
  replace hL20 := hL20.ext hx4
  replace hB2 := hB2.ext hx4
  replace hE := hE.ext hx4
  replace hB5 : Blk _ b5 24 #[.slice none 0 0, .int .i64 0] := hB5
  refine R.storeA t24 hB5 rfl rfl rfl rfl (ones2 hL18.one rfl) nofun ?_
  intro w5 hU5 hs5 hN5
  replace hL18 := hL18.upT hU5 hB5 (by decide)
  replace hL20 := hL20.upT hU5 hB5 (by decide)
  replace hB2 := hB2.up hU5 (fun h => ne2_5 h)
  replace hE := hE.own hU5 hb5
  replace hB5 : Blk _ b5 24 #[u18, .int .i64 h] := hN5
  clear hN5
  refine R.assign ?_
  refine R.nil ?_
  refine E.seq ?_
  refine E.regionP rfl ?_
  refine R.loadA t24 hB2 rfl rfl rfl trivial ?_
  refine R.alloc t54 nofun ?_
  intro b7 w6 hb7 hx6 hB7
  replace hb7 := Nat.le_trans hE.size hb7
  replace hL18 := hL18.ext hx6
  replace hL20 := hL20.ext hx6
  replace hB2 := hB2.ext hx6
  replace hB5 := hB5.ext hx6
  replace hE := hE.ext hx6
  replace hB7 : Blk _ b7 54 #[.slice none 0 0, .int .i64 0] := hB7
  refine R.storeA t54 hB7 rfl rfl rfl rfl (ones2 hm.row.one rfl) nofun ?_
  intro w7 hU7 hs7 hN7
  replace hL18 := hL18.upT hU7 hB7 (by decide)
  replace hL20 := hL20.upT hU7 hB7 (by decide)
  replace hB2 := hB2.upT hU7 hB7 (by decide)
  replace hB5 := hB5.upT hU7 hB7 (by decide)
  replace hE := hE.own hU7 hb7
  replace hB7 : Blk _ b7 54 #[v, .int .i64 h] := hN7
  clear hN7
  refine R.nil ?_
  refine E.seq ?_
  refine E.regionP rfl ?_
  refine R.loadA t24 hB5 rfl rfl rfl trivial ?_
  refine R.move ?_
  refine R.callE2 ent44 (yBound _ hL18.mat.choose_spec hL20.ints hF.l6 hF.x6 (by omega)) rfl rfl nofun ?_
  rintro v25 w8 hx8 rfl
  replace hL18 := hL18.ext hx8
  replace hL20 := hL20.ext hx8
  replace hB2 := hB2.ext hx8
  replace hB5 := hB5.ext hx8
  replace hB7 := hB7.ext hx8
  replace hE := hE.ext hx8
  refine R.move ?_
  refine R.extract rfl rfl ?_
  refine R.extract rfl rfl ?_
  refine R.assign ?_
  refine R.assign ?_
  refine R.nil ?_
  refine E.seq ?_
  refine E.regionP rfl ?_
  refine R.loadA t54 hB7 rfl rfl rfl trivial ?_
  refine R.move ?_
  refine R.callE2 ent84 (rBound _ (hm.ext hE) (ho.ext hE) (by omega) hF.2 (by omega)) rfl rfl nofun ?_
  rintro v31 w9 hx9 rfl
  replace hL18 := hL18.ext hx9
  replace hL20 := hL20.ext hx9
  replace hB2 := hB2.ext hx9
  replace hB5 := hB5.ext hx9
  replace hB7 := hB7.ext hx9
  replace hE := hE.ext hx9
  refine R.move ?_
  refine R.extract rfl rfl ?_
  refine R.extract rfl rfl ?_
  refine R.assign ?_
  refine R.assign ?_
  refine R.nil ?_
  refine E.seq ?_
  refine E.regionP rfl ?_
  refine R.loadA t24 hB5 rfl rfl rfl trivial ?_
  refine R.move ?_
  refine R.callE2 ent45 (yRun _ hL18.mat.choose_spec hL20.ints hF.l6 hF.x6 (by omega)) rfl rfl nofun ?_
  rintro v37 w10 hx10 ⟨u37, rfl, hQ37, hf37⟩
  replace hL18 := hL18.ext hx10
  replace hL20 := hL20.ext hx10
  replace hB2 := hB2.ext hx10
  replace hB5 := hB5.ext hx10
  replace hB7 := hB7.ext hx10
  replace hE := hE.ext hx10
  refine R.move ?_
  refine R.extract rfl rfl ?_
  refine R.extract rfl rfl ?_
  refine R.assign ?_
  refine R.assign ?_
  refine R.nil ?_
  refine E.seq ?_
  refine E.regionP rfl ?_
  refine R.loadA t54 hB7 rfl rfl rfl trivial ?_
  refine R.move ?_
  refine R.callE2 ent49 (rRun _ (hm.ext hE) (ho.ext hE) (by omega) hF.2 (by omega)) rfl rfl nofun ?_
  rintro v43 w11 hx11 ⟨u43, rfl, hQ43⟩
  replace hL18 := hL18.ext hx11
  replace hL20 := hL20.ext hx11
  replace hQ37 := hQ37.ext hx11
  replace hB2 := hB2.ext hx11
  replace hB5 := hB5.ext hx11
  replace hB7 := hB7.ext hx11
  replace hE := hE.ext hx11
  refine R.move ?_
  refine R.extract rfl rfl ?_
  refine R.extract rfl rfl ?_
  refine R.assign ?_
  refine R.assign ?_
  refine R.nil ?_
  refine E.seq ?_
  refine E.seq ?_
  refine E.regionP rfl ?_
  refine R.move ?_
  refine R.move ?_
  refine R.neq (b := false) rfl rfl (by simp) ?_
  refine R.move ?_
  refine R.gT rfl rfl ?_
  refine R.move ?_
  refine R.gT rfl rfl ?_
  refine R.move ?_
  refine R.gT rfl rfl ?_
  refine R.neq (b := false) rfl rfl (by simp) ?_
  refine R.pickF rfl ?_
  refine R.move ?_
  refine R.gT rfl rfl ?_
  refine R.move ?_
  refine R.gT rfl rfl ?_
  refine R.move ?_
  refine R.gT rfl rfl ?_
  refine R.neq (b := false) rfl rfl (by simp) ?_
  refine R.pickF rfl ?_
  refine R.move ?_
  refine R.gT rfl rfl ?_
  refine R.move ?_
  refine R.gT rfl rfl ?_
  refine R.move ?_
  refine R.gT rfl rfl ?_
  refine R.callE1 ent50 (told35 _ hQ43 (by omega)) rfl nofun ?_
  rintro v62 w12 hx12 ⟨hT62, hf62⟩
  replace hL18 := hL18.ext hx12
  replace hL20 := hL20.ext hx12
  replace hQ37 := hQ37.ext hx12
  replace hQ43 := hQ43.ext hx12
  replace hB2 := hB2.ext hx12
  replace hB5 := hB5.ext hx12
  replace hB7 := hB7.ext hx12
  replace hE := hE.ext hx12
  refine R.gT rfl rfl ?_
  refine R.callE2 ent72 (same35t _ hQ37.row hT62.row (by omega)) rfl rfl nofun ?_
  rintro v63 w13 hx13 rfl
  replace hL18 := hL18.ext hx13
  replace hL20 := hL20.ext hx13
  replace hQ37 := hQ37.ext hx13
  replace hQ43 := hQ43.ext hx13
  replace hT62 := hT62.ext hx13
  replace hB2 := hB2.ext hx13
  replace hB5 := hB5.ext hx13
  replace hB7 := hB7.ext hx13
  replace hE := hE.ext hx13
  refine R.gT rfl rfl ?_
  refine R.not rfl ?_
  refine R.pickF rfl ?_
  refine R.nil ?_
  refine E.condF rfl ?_
  refine E.skip ?_
  refine E.seq ?_
  refine E.seq ?_
  refine E.regionP rfl ?_
  refine R.assign ?_
  refine R.nil ?_
  refine E.block ?_
  refine E.loop (fun n e wr => ∃ (i : Nat), n = 5 - i ∧ i ≤ 5 ∧ Ext w wr ∧ LentM wr u18 xss ∧ Lent wr v20 ord ∧ Blk wr b2 24 #[v, .int .i64 h] ∧ Blk wr b5 24 #[u18, .int .i64 h] ∧ Has e [(1, vo), (2, .pointer (some ⟨b2, 0, none⟩)), (5, .pointer (some ⟨b5, 0, none⟩)), (6, v20), (16, .int .i64 ((i : Int) - 1))]) (5) ?_ ?_
  · exact ⟨0, rfl, Nat.zero_le _, hE, hL18, hL20, hB2, hB5, rfl, rfl, rfl, rfl, rfl, trivial⟩
  · rintro n e wr ⟨i, rfl, hi, hE, hL18, hL20, hB2, hB5, hH⟩
    obtain ⟨e, rfl⟩ := hH.ex
    clear hH
    refine E.seq ?_
    refine E.seq ?_
    refine E.regionP rfl ?_
    refine R.move ?_
    refine R.lss rfl rfl rfl ?_
    refine R.nil ?_
    refine E.cond rfl (fun hc67 => ?_) (fun hc67 => ?_)
    · replace hc67 := dT hc67
      have hi1 : i < 5 := by omega
      refine E.skip ?_
      refine E.seq ?_
      refine E.block ?_
      refine E.seq ?_
      refine E.regionP rfl ?_
      refine R.move ?_
      refine R.move ?_
      refine R.callE2 ent85 (yRank _ hL20.ints (by omega)) rfl rfl nofun ?_
      rintro v72 w14 hx14 rfl
      replace hL18 := hL18.ext hx14
      replace hL20 := hL20.ext hx14
      replace hB2 := hB2.ext hx14
      replace hB5 := hB5.ext hx14
      replace hE := hE.ext hx14
      refine R.move ?_
      refine R.move ?_
      refine R.callE2 ent86 (rRank _ (ho.ext hE) (by omega)) rfl rfl nofun ?_
      rintro v75 w15 hx15 rfl
      replace hL18 := hL18.ext hx15
      replace hL20 := hL20.ext hx15
      replace hB2 := hB2.ext hx15
      replace hB5 := hB5.ext hx15
      replace hE := hE.ext hx15
      refine R.neq (b := false) rfl rfl (by simp) ?_
      refine R.nil ?_
      refine E.condF rfl ?_
      refine E.skip ?_
      refine E.regionP rfl ?_
      refine R.move ?_
      refine R.add (m := (i : Int) - 1) (n := 1) rfl rfl (by omega) (by omega) ?_
      refine R.assign ?_
      refine R.nil ?_
      exact ⟨5 - (i + 1), by omega, i + 1, rfl, by omega, hE, hL18, hL20, hB2, hB5, rfl, rfl, rfl, rfl, (by show Value.int _ _ = _; congr 1; omega), trivial⟩
    · replace hc67 := dF hc67
      refine E.exit ?_
      refine E.seq ?_
      refine E.regionP rfl ?_
      refine R.loadA t24 hB5 rfl rfl rfl trivial ?_
      refine R.loadA t24 hB2 rfl rfl rfl trivial ?_
      refine R.callE2 ent33 (kept _ hL18 (hm.ext hE) hF.l6 hF.x6) rfl rfl nofun ?_
      rintro v79 w16 hx16 rfl
      replace hL18 := hL18.ext hx16
      replace hL20 := hL20.ext hx16
      replace hB2 := hB2.ext hx16
      replace hB5 := hB5.ext hx16
      replace hE := hE.ext hx16
      refine R.move ?_
      refine R.gT rfl rfl ?_
      refine R.move ?_
      refine R.gT rfl rfl ?_
      refine R.move ?_
      refine R.gT rfl rfl ?_
      refine R.callE2 ent83 (keptInts _ hL20 (ho.ext hE) (by omega)) rfl rfl nofun ?_
      rintro v83 w17 hx17 rfl
      replace hL18 := hL18.ext hx17
      replace hL20 := hL20.ext hx17
      replace hB2 := hB2.ext hx17
      replace hB5 := hB5.ext hx17
      replace hE := hE.ext hx17
      refine R.pickT rfl ?_
      refine R.assign ?_
      refine R.nil ?_
      refine E.ret ?_
      exact ret1 (.bool true) rfl rfl ⟨_, rfl, hE, rfl⟩
end Go.Proofs.Ytfdmndkoiheebaa
