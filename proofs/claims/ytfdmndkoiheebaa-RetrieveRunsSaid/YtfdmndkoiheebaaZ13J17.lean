import Derived.Test.YtfdmndkoiheebaaZ13J13
import Derived.Test.YtfdmndkoiheebaaZ13A7
import Derived.Test.YtfdmndkoiheebaaZ13J16
namespace Go.Proofs.Ytfdmndkoiheebaa
open Go Go.RowKit
theorem Lent.upT {w w' : World} {v : Value} {xs : List Int} {b : Nat} {ty : TypeId} {cs : Array Value} (h : Lent w v xs) (u : Upd (Ytfdmndkoiheebaa.one b) w w') (hb : Blk w b ty cs) (hne : 3 ≠ ty) : Lent w' v xs := by
  obtain ⟨v0, h, e⟩ := h; exact ⟨v0, h.upT u hb hne, e⟩
end Go.Proofs.Ytfdmndkoiheebaa

namespace Go.Proofs.Ytfdmndkoiheebaa
open Go Go.RowKit
theorem runG_len {H : Nat} {ord : List Int} : ∀ (n : Nat) (xss : List (List Int)) (nx : Nat) (acc : List (Int × Int × Int)), (runG H ord n xss nx acc).1.length ≤ acc.length + n := by
  intro n
  induction n with
  | zero => intro xss nx acc; simp [runG]
  | succ n ih =>
    intro xss nx acc
    simp only [runG]
    split
    · split
      · split
        · refine Nat.le_trans (ih _ _ _) ?_; simp; omega
        · simp
      · split
        · simp
        · split
          · refine Nat.le_trans (ih _ _ _) ?_; simp; omega
          · simp
    · simp
theorem runR_len {xss : List (List Int)} {h : Int} {ord : List Int} : (runR xss h ord).1.length ≤ 7 * ord.length + 7 := by
  unfold runR
  split
  · simpa using runG_len (H := h.toNat) (ord := ord) (7 * ord.length + 7) xss 0 []
  · simp
set_option maxHeartbeats 1600000 in
theorem runs_ (w : World) {v vo : Value} {h : Int} {us : List Value} {xss : List (List Int)} {ord : List Int} (hm : Mat w v us xss) (ho : Ints w vo ord) (hF : Fit xss) (hol : ord.length < 10000) :
    Calls Try.prog 47 #[.agg #[v, .int .i64 h], vo] w (Ret fun r w' => Ext w w' ∧ r = .bool true) := by
  have hF1 := hF.1
  have hrl := runR_len (xss := xss) (h := h) (ord := ord)
  refine calls_E (args := [.agg #[v, .int .i64 h], vo]) 85 Try.func47 rfl rfl (by simp) ?_
  have hE : Ext w w := Upd.refl w
  refine E.seq ?_
  refine E.regionP rfl ?_
  refine R.box rfl nofun ?_
  intro b2 w1 hb2 hx1 hB2
  replace hb2 := Nat.le_trans hE.size hb2
  replace hE := hE.ext hx1
  replace hB2 : Blk _ b2 24 #[v, .int .i64 h] := hB2
  refine R.assign ?_
  refine R.nil ?_
  refine E.seq ?_
  refine E.regionP rfl ?_
  refine R.loadA t24 hB2 rfl rfl rfl trivial ?_
  refine R.callE1 ent30 (own _ (hm.ext hE) hF.l6 hF.x6) rfl nofun ?_
  rintro v18 w2 hx2 ⟨u18, rfl, hL18, hf18⟩
  replace hB2 := hB2.ext hx2
  replace hE := hE.ext hx2
  refine R.move ?_
  refine R.callE1 ent81 (lentInts _ (ho.ext hE) (by omega)) rfl nofun ?_
  rintro v20 w3 hx3 ⟨hL20, hf20⟩
  replace hL18 := hL18.ext hx3
  replace hB2 := hB2.ext hx3
  replace hE := hE.ext hx3
  refine R.alloc t24 nofun ?_
  intro b5 w4 hb5 hx4 hB5
  have ne2_5 : b2 ≠ b5 := by have := hB2.lt; omega
  replace hb5 := Nat.le_trans hE.size hb5
  replace hL18 := hL18.ext hx4
  replace hL20 := hL20.ext hx4
  replace hB2 := hB2.ext hx4
  replace hE := hE.ext hx4
  replace hB5 : Blk _ b5 24 #[.slice none 0 0, .int .i64 0] := hB5
  refine R.storeA t24 hB5 rfl rfl rfl rfl (ones2 hL18.one rfl) nofun ?_
  intro w5 hU5 hs5 hN5
  replace hL18 := hL18.upT hU5 hB5 (by decide)
  replace hL20 := hL20.upT hU5 hB5 (by decide)
  replace hB2 := hB2.up hU5 (fun h => ne2_5 h)
  replace hE := hE.own hU5 hb5
  replace hB5 : Blk _ b5 24 #[u18, .int .i64 h] := hN5
  clear hN5
  refine R.assign ?_
  refine R.nil ?_
  refine E.seq ?_
  refine E.regionP rfl ?_
  refine R.loadA t24 hB2 rfl rfl rfl trivial ?_
  refine R.alloc t54 nofun ?_
  intro b7 w6 hb7 hx6 hB7
  replace hb7 := Nat.le_trans hE.size hb7
  replace hL18 := hL18.ext hx6
  replace hL20 := hL20.ext hx6
  replace hB2 := hB2.ext hx6
  replace hB5 := hB5.ext hx6
  replace hE := hE.ext hx6
  replace hB7 : Blk _ b7 54 #[.slice none 0 0, .int .i64 0] := hB7
  refine R.storeA t54 hB7 rfl rfl rfl rfl (ones2 hm.row.one rfl) nofun ?_
  intro w7 hU7 hs7 hN7
  replace hL18 := hL18.upT hU7 hB7 (by decide)
  replace hL20 := hL20.upT hU7 hB7 (by decide)
  replace hB2 := hB2.upT hU7 hB7 (by decide)
  replace hB5 := hB5.upT hU7 hB7 (by decide)
  replace hE := hE.own hU7 hb7
  replace hB7 : Blk _ b7 54 #[v, .int .i64 h] := hN7
  clear hN7
  refine R.nil ?_
  refine E.seq ?_
  refine E.regionP rfl ?_
  refine R.loadA t24 hB5 rfl rfl rfl trivial ?_
  refine R.move ?_
  refine R.callE2 ent44 (yBound _ hL18.mat.choose_spec hL20.ints hF.l6 hF.x6 (by omega)) rfl rfl nofun ?_
  rintro v25 w8 hx8 rfl
  replace hL18 := hL18.ext hx8
  replace hL20 := hL20.ext hx8
  replace hB2 := hB2.ext hx8
  replace hB5 := hB5.ext hx8
  replace hB7 := hB7.ext hx8
  replace hE := hE.ext hx8
  refine R.move ?_
  refine R.extract rfl rfl ?_
  refine R.extract rfl rfl ?_
  refine R.assign ?_
  refine R.assign ?_
  refine R.nil ?_
  refine E.seq ?_
  refine E.regionP rfl ?_
  refine R.loadA t54 hB7 rfl rfl rfl trivial ?_
  refine R.move ?_
  refine R.callE2 ent84 (rBound _ (hm.ext hE) (ho.ext hE) (by omega) hF.2 (by omega)) rfl rfl nofun ?_
  rintro v31 w9 hx9 rfl
  replace hL18 := hL18.ext hx9
  replace hL20 := hL20.ext hx9
  replace hB2 := hB2.ext hx9
  replace hB5 := hB5.ext hx9
  replace hB7 := hB7.ext hx9
  replace hE := hE.ext hx9
  refine R.move ?_
  refine R.extract rfl rfl ?_
  refine R.extract rfl rfl ?_
  refine R.assign ?_
  refine R.assign ?_
  refine R.nil ?_
  refine E.seq ?_
  refine E.regionP rfl ?_
  refine R.loadA t24 hB5 rfl rfl rfl trivial ?_
  refine R.move ?_
  refine R.callE2 ent45 (yRun _ hL18.mat.choose_spec hL20.ints hF.l6 hF.x6 (by omega)) rfl rfl nofun ?_
  rintro v37 w10 hx10 ⟨u37, rfl, hQ37, hf37⟩
  replace hL18 := hL18.ext hx10
  replace hL20 := hL20.ext hx10
  replace hB2 := hB2.ext hx10
  replace hB5 := hB5.ext hx10
  replace hB7 := hB7.ext hx10
  replace hE := hE.ext hx10
  refine R.move ?_
  refine R.extract rfl rfl ?_
  refine R.extract rfl rfl ?_
  refine R.assign ?_
  refine R.assign ?_
  refine R.nil ?_
  refine E.seq ?_
  refine E.regionP rfl ?_
  refine R.loadA t54 hB7 rfl rfl rfl trivial ?_
  refine R.move ?_
  refine R.callE2 ent49 (rRun _ (hm.ext hE) (ho.ext hE) (by omega) hF.2 (by omega)) rfl rfl nofun ?_
  rintro v43 w11 hx11 ⟨u43, rfl, hQ43⟩
  replace hL18 := hL18.ext hx11
  replace hL20 := hL20.ext hx11
  replace hQ37 := hQ37.ext hx11
  replace hB2 := hB2.ext hx11
  replace hB5 := hB5.ext hx11
  replace hB7 := hB7.ext hx11
  replace hE := hE.ext hx11
  refine R.move ?_
  refine R.extract rfl rfl ?_
  refine R.extract rfl rfl ?_
  refine R.assign ?_
  refine R.assign ?_
  refine R.nil ?_
  refine E.seq ?_
  refine E.seq ?_
  refine E.regionP rfl ?_
  refine R.move ?_
  refine R.move ?_
  refine R.neq (b := false) rfl rfl (by simp) ?_
  refine R.move ?_
  refine R.gT rfl rfl ?_
  refine R.move ?_
  refine R.gT rfl rfl ?_
  refine R.move ?_
  refine R.gT rfl rfl ?_
  refine R.neq (b := false) rfl rfl (by simp) ?_
  refine R.pickF rfl ?_
  refine R.move ?_
  refine R.gT rfl rfl ?_
  refine R.move ?_
  refine R.gT rfl rfl ?_
  refine R.move ?_
  refine R.gT rfl rfl ?_
  refine R.neq (b := false) rfl rfl (by simp) ?_
  refine R.pickF rfl ?_
  refine R.move ?_
  refine R.gT rfl rfl ?_
  refine R.move ?_
  refine R.gT rfl rfl ?_
  refine R.move ?_
  refine R.gT rfl rfl ?_
  refine R.callE1 ent50 (told35 _ hQ43 (by omega)) rfl nofun ?_
  rintro v62 w12 hx12 ⟨hT62, hf62⟩
  replace hL18 := hL18.ext hx12
  replace hL20 := hL20.ext hx12
  replace hQ37 := hQ37.ext hx12
  replace hQ43 := hQ43.ext hx12
  replace hB2 := hB2.ext hx12
  replace hB5 := hB5.ext hx12
  replace hB7 := hB7.ext hx12
  replace hE := hE.ext hx12
  refine R.gT rfl rfl ?_
  refine R.callE2 ent72 (same35t _ hQ37.row hT62.row (by omega)) rfl rfl nofun ?_
  rintro v63 w13 hx13 rfl
  replace hL18 := hL18.ext hx13
  replace hL20 := hL20.ext hx13
  replace hQ37 := hQ37.ext hx13
  replace hQ43 := hQ43.ext hx13
  replace hT62 := hT62.ext hx13
  replace hB2 := hB2.ext hx13
  replace hB5 := hB5.ext hx13
  replace hB7 := hB7.ext hx13
  replace hE := hE.ext hx13
  refine R.gT rfl rfl ?_
  refine R.not rfl ?_
  refine R.pickF rfl ?_
  refine R.nil ?_
  refine E.condF rfl ?_
  refine E.skip ?_
  refine E.seq ?_
  refine E.seq ?_
  refine E.regionP rfl ?_
  refine R.assign ?_
  refine R.nil ?_
  refine E.block ?_
  refine E.loop (fun n e wr => ∃ (i : Nat), n = 5 - i ∧ i ≤ 5 ∧ Ext w wr ∧ LentM wr u18 xss ∧ Lent wr v20 ord ∧ Blk wr b2 24 #[v, .int .i64 h] ∧ Blk wr b5 24 #[u18, .int .i64 h] ∧ Has e [(1, vo), (2, .pointer (some ⟨b2, 0, none⟩)), (5, .pointer (some ⟨b5, 0, none⟩)), (6, v20), (16, .int .i64 ((i : Int) - 1))]) (5) ?_ ?_
  · exact ⟨0, rfl, Nat.zero_le _, hE, hL18, hL20, hB2, hB5, rfl, rfl, rfl, rfl, rfl, trivial⟩
  · rintro n e wr ⟨i, rfl, hi, hE, hL18, hL20, hB2, hB5, hH⟩
    obtain ⟨e, rfl⟩ := hH.ex
    clear hH
    refine E.seq ?_
    refine E.seq ?_
    refine E.regionP rfl ?_
    refine R.move ?_
    refine R.lss rfl rfl rfl ?_
    refine R.nil ?_
    refine E.cond rfl (fun hc67 => ?_) (fun hc67 => ?_)
    · replace hc67 := dT hc67
      have hi1 : i < 5 := by omega
      refine E.skip ?_
      refine E.seq ?_
      refine E.block ?_
      refine E.seq ?_
      refine E.regionP rfl ?_
      refine R.move ?_
      refine R.move ?_
      refine R.callE2 ent85 (yRank _ hL20.ints (by omega)) rfl rfl nofun ?_
      rintro v72 w14 hx14 rfl
      replace hL18 := hL18.ext hx14
      replace hL20 := hL20.ext hx14
      replace hB2 := hB2.ext hx14
      replace hB5 := hB5.ext hx14
      replace hE := hE.ext hx14
      refine R.move ?_
      refine R.move ?_
      refine R.callE2 ent86 (rRank _ (ho.ext hE) (by omega)) rfl rfl nofun ?_
      rintro v75 w15 hx15 rfl
      replace hL18 := hL18.ext hx15
      replace hL20 := hL20.ext hx15
      replace hB2 := hB2.ext hx15
      replace hB5 := hB5.ext hx15
      replace hE := hE.ext hx15
      refine R.neq (b := false) rfl rfl (by simp) ?_
      refine R.nil ?_
      refine E.condF rfl ?_
      refine E.skip ?_
      refine E.regionP rfl ?_
      refine R.move ?_
      refine R.add (m := (i : Int) - 1) (n := 1) rfl rfl (by omega) (by omega) ?_
      refine R.assign ?_
      refine R.nil ?_
      exact ⟨5 - (i + 1), by omega, i + 1, rfl, by omega, hE, hL18, hL20, hB2, hB5, rfl, rfl, rfl, rfl, (by show Value.int _ _ = _; congr 1; omega), trivial⟩
    · replace hc67 := dF hc67
      refine E.exit ?_
      refine E.seq ?_
      refine E.regionP rfl ?_
      refine R.loadA t24 hB5 rfl rfl rfl trivial ?_
      refine R.loadA t24 hB2 rfl rfl rfl trivial ?_
      refine R.callE2 ent33 (kept _ hL18 (hm.ext hE) hF.l6 hF.x6) rfl rfl nofun ?_
      rintro v79 w16 hx16 rfl
      replace hL18 := hL18.ext hx16
      replace hL20 := hL20.ext hx16
      replace hB2 := hB2.ext hx16
      replace hB5 := hB5.ext hx16
      replace hE := hE.ext hx16
      refine R.move ?_
      refine R.gT rfl rfl ?_
      refine R.move ?_
      refine R.gT rfl rfl ?_
      refine R.move ?_
      refine R.gT rfl rfl ?_
      refine R.callE2 ent83 (keptInts _ hL20 (ho.ext hE) (by omega)) rfl rfl nofun ?_
      rintro v83 w17 hx17 rfl
      replace hL18 := hL18.ext hx17
      replace hL20 := hL20.ext hx17
      replace hB2 := hB2.ext hx17
      replace hB5 := hB5.ext hx17
      replace hE := hE.ext hx17
      refine R.pickT rfl ?_
      refine R.assign ?_
      refine R.nil ?_
      refine E.ret ?_
      exact ret1 (.bool true) rfl rfl ⟨_, rfl, hE, rfl⟩
theorem retrieveRuns (w : World) {v vo : Value} {h : Int} {us : List Value} {xss : List (List Int)} {ord : List Int} (hm : Mat w v us xss) (hl : xss.length ≤ 9223372036854775807) (ho : Ints w vo ord) (hol : ord.length ≤ 9223372036854775807) :
    Calls Try.prog 13 #[.agg #[v, .int .i64 h], vo] w (Ret fun r w' => Ext w w' ∧ r = .bool true) := by
  cases hq : decide ((∀ xs ∈ xss, xs.length ≤ 10) ∧ xss.length ≤ 32)
  rotate_left
  rcases Nat.lt_or_ge 60 ord.length with hq60 | hq60
  · refine calls_E (args := [.agg #[v, .int .i64 h], vo]) 21 Try.func13 rfl rfl (by simp) ?_
    have hE : Ext w w := Upd.refl w
    refine E.seq ?_
    refine E.regionP rfl ?_
    refine R.box rfl nofun ?_
    intro b2 w1 hb2 hx1 hB2
    replace hb2 := Nat.le_trans hE.size hb2
    replace hE := hE.ext hx1
    replace hB2 : Blk _ b2 24 #[v, .int .i64 h] := hB2
    refine R.assign ?_
    refine R.nil ?_
    refine E.seq ?_
    refine E.regionP rfl ?_
    refine R.loadA t24 hB2 rfl rfl rfl trivial ?_
    refine R.callE1 ent17 (few _ (hm.ext hE) hl) rfl nofun ?_
    rintro v6 w2 hx2 rfl
    rw [hq]
    replace hB2 := hB2.ext hx2
    replace hE := hE.ext hx2
    refine R.not rfl ?_
    refine R.move ?_
    refine R.gT rfl rfl ?_
    refine R.move ?_
    refine R.gT rfl rfl ?_
    refine R.len Try.underlying35 ho rfl ?_
    refine R.gT rfl rfl ?_
    refine R.gtr (b := true) rfl rfl (decide_eq_true (by omega)) ?_
    refine R.pickF rfl ?_
    refine R.move ?_
    refine R.gF rfl rfl rfl ?_
    refine R.gF rfl rfl rfl ?_
    refine R.gF rfl rfl rfl ?_
    refine R.pickT rfl ?_
    refine R.move ?_
    refine R.gT rfl rfl ?_
    refine R.callE0 ent38 (awake35 _)  nofun ?_
    rintro v19 w3 hx3 rfl
    replace hB2 := hB2.ext hx3
    replace hE := hE.ext hx3
    refine R.pickT rfl ?_
    refine R.assign ?_
    refine R.nil ?_
    refine E.ret ?_
    exact ret1 (.bool true) rfl rfl ⟨_, rfl, hE, rfl⟩
  · refine calls_E (args := [.agg #[v, .int .i64 h], vo]) 21 Try.func13 rfl rfl (by simp) ?_
    have hE : Ext w w := Upd.refl w
    refine E.seq ?_
    refine E.regionP rfl ?_
    refine R.box rfl nofun ?_
    intro b2 w1 hb2 hx1 hB2
    replace hb2 := Nat.le_trans hE.size hb2
    replace hE := hE.ext hx1
    replace hB2 : Blk _ b2 24 #[v, .int .i64 h] := hB2
    refine R.assign ?_
    refine R.nil ?_
    refine E.seq ?_
    refine E.regionP rfl ?_
    refine R.loadA t24 hB2 rfl rfl rfl trivial ?_
    refine R.callE1 ent17 (few _ (hm.ext hE) hl) rfl nofun ?_
    rintro v6 w2 hx2 rfl
    rw [hq]
    replace hB2 := hB2.ext hx2
    replace hE := hE.ext hx2
    refine R.not rfl ?_
    refine R.move ?_
    refine R.gT rfl rfl ?_
    refine R.move ?_
    refine R.gT rfl rfl ?_
    refine R.len Try.underlying35 ho rfl ?_
    refine R.gT rfl rfl ?_
    refine R.gtr (b := false) rfl rfl (decide_eq_false (by omega)) ?_
    refine R.pickF rfl ?_
    refine R.move ?_
    refine R.gT rfl rfl ?_
    refine R.loadA t24 hB2 rfl rfl rfl trivial ?_
    refine R.gT rfl rfl ?_
    refine R.move ?_
    refine R.gT rfl rfl ?_
    refine R.callE2 ent47 (runs_ _ (hm.ext hE) (ho.ext hE) ⟨(of_decide_eq_true hq).2, (of_decide_eq_true hq).1⟩ (by omega)) rfl rfl nofun ?_
    rintro v16 w3 hx3 rfl
    replace hB2 := hB2.ext hx3
    replace hE := hE.ext hx3
    refine R.pickF rfl ?_
    refine R.move ?_
    refine R.gT rfl rfl ?_
    refine R.callE0 ent38 (awake35 _)  nofun ?_
    rintro v19 w4 hx4 rfl
    replace hB2 := hB2.ext hx4
    replace hE := hE.ext hx4
    refine R.pickT rfl ?_
    refine R.assign ?_
    refine R.nil ?_
    refine E.ret ?_
    exact ret1 (.bool true) rfl rfl ⟨_, rfl, hE, rfl⟩
  · refine calls_E (args := [.agg #[v, .int .i64 h], vo]) 21 Try.func13 rfl rfl (by simp) ?_
    have hE : Ext w w := Upd.refl w
    refine E.seq ?_
    refine E.regionP rfl ?_
    refine R.box rfl nofun ?_
    intro b2 w1 hb2 hx1 hB2
    replace hb2 := Nat.le_trans hE.size hb2
    replace hE := hE.ext hx1
    replace hB2 : Blk _ b2 24 #[v, .int .i64 h] := hB2
    refine R.assign ?_
    refine R.nil ?_
    refine E.seq ?_
    refine E.regionP rfl ?_
    refine R.loadA t24 hB2 rfl rfl rfl trivial ?_
    refine R.callE1 ent17 (few _ (hm.ext hE) hl) rfl nofun ?_
    rintro v6 w2 hx2 rfl
    rw [hq]
    replace hB2 := hB2.ext hx2
    replace hE := hE.ext hx2
    refine R.not rfl ?_
    refine R.move ?_
    refine R.gF rfl rfl rfl ?_
    refine R.gF rfl rfl rfl ?_
    refine R.gF rfl rfl rfl ?_
    refine R.pickT rfl ?_
    refine R.move ?_
    refine R.gF rfl rfl rfl ?_
    refine R.gF rfl rfl rfl ?_
    refine R.gF rfl rfl rfl ?_
    refine R.pickT rfl ?_
    refine R.move ?_
    refine R.gT rfl rfl ?_
    refine R.callE0 ent38 (awake35 _)  nofun ?_
    rintro v19 w3 hx3 rfl
    replace hB2 := hB2.ext hx3
    replace hE := hE.ext hx3
    refine R.pickT rfl ?_
    refine R.assign ?_
    refine R.nil ?_
    refine E.ret ?_
    exact ret1 (.bool true) rfl rfl ⟨_, rfl, hE, rfl⟩
end Go.Proofs.Ytfdmndkoiheebaa
