import Derived.Test.YtfdmndkoiheebaaZ14J21
import Derived.Test.YtfdmndkoiheebaaZ14J14
namespace Go.Proofs.Ytfdmndkoiheebaa
open Go Go.RowKit
theorem yLeast (w : World) {v vo : Value} {h : Int} {us : List Value} {xss : List (List Int)} {ord : List Int} (hm : Mat w v us xss) (ho : Ints w vo ord) (hl : xss.length < 1000000) (hx : ∀ xs ∈ xss, xs.length < 1000000) (hol : ord.length < 100000) :
    Calls Try.prog 40 #[.agg #[v, .int .i64 h], vo] w (Ret fun r w' => Ext w w' ∧ ∃ u, r = .tuple #[u, .int .i64 (leastR xss h ord).2] ∧ Sl w' 68 3 u (leastR xss h ord).1.length (stepsC (leastR xss h ord).1) ∧ Fresh w u) := by
  cases hb : beginB xss h ord
  · rw [show leastR xss h ord = ([], 2) by simp [leastR, hb]]
    exact (least0 w hm ho hl hx hol hb).mono fun _ _ ⟨r, h1, h2, h3⟩ => ⟨r, h1, h2, _, h3, Sl.nil _ _ _, Fresh.nil _⟩
  · obtain ⟨hRP, hOP⟩ := beginB_right hb
    obtain ⟨H, rfl, _⟩ := rightB_nat hRP.b
    exact yLeast1 w hm ho hl hx hol hb
theorem Str.len {H : Nat} {ord : List Int} {ys : List (List Int)} {nx : Nat} {ss : List (Int × Int × Int)} (h : Str H ord ys nx ss) : ss.length ≤ ord.length - nx + cnt ss := by
  induction h with
  | done h => simp
  | leave h hs ih => have := h.ln; rw [cnt_leave, List.length_cons]; omega
  | move h hj hja hjH hs ih => rw [cnt_move, List.length_cons]; omega
theorem leastR_len {xss : List (List Int)} {h : Int} {ord : List Int} : (leastR xss h ord).1.length ≤ ord.length + 15 := by
  unfold leastR
  split
  · rename_i hb
    split
    · simp
    · split
      · rename_i ss hs
        unfold leastS at hs
        obtain ⟨m, hm, h1⟩ := List.exists_of_findSome?_eq_some hs
        obtain ⟨hRP, hOP⟩ := beginB_right hb
        obtain ⟨H, rfl, _⟩ := rightB_nat hRP.b
        obtain ⟨q1, q2⟩ := try_str _ _ _ _ _ rfl (GoodJ.start hb) h1
        have := q1.len
        simp at hm
        show ss.length ≤ _
        omega
      · simp
  · simp
set_option maxHeartbeats 1600000 in
theorem finds_ (w : World) {v vo : Value} {h : Int} {us : List Value} {xss : List (List Int)} {ord : List Int} (hm : Mat w v us xss) (ho : Ints w vo ord) (hF : Fit xss) (hol : ord.length < 10000) :
    Calls Try.prog 48 #[.agg #[v, .int .i64 h], vo] w (Ret fun r w' => Ext w w' ∧ r = .bool true) := by
  have hF1 := hF.1
  have hrl := leastR_len (xss := xss) (h := h) (ord := ord)
  refine calls_E (args := [.agg #[v, .int .i64 h], vo]) 46 Try.func48 rfl rfl (by simp) ?_
  have hE : Ext w w := Upd.refl w
  refine E.seq ?_
  refine E.regionP rfl ?_
  refine R.box rfl nofun ?_
  intro b2 w1 hb2 hx1 hB2
  replace hb2 := Nat.le_trans hE.size hb2
  replace hE := hE.ext hx1
  replace hB2 : Blk _ b2 24 #[v, .int .i64 h] := hB2
  refine R.assign ?_
  refine R.nil ?_
  refine E.seq ?_
  refine E.regionP rfl ?_
  refine R.loadA t24 hB2 rfl rfl rfl trivial ?_
  refine R.callE1 ent30 (own _ (hm.ext hE) hF.l6 hF.x6) rfl nofun ?_
  rintro v12 w2 hx2 ⟨u12, rfl, hL12, hf12⟩
  replace hB2 := hB2.ext hx2
  replace hE := hE.ext hx2
  refine R.move ?_
  refine R.callE1 ent81 (lentInts _ (ho.ext hE) (by omega)) rfl nofun ?_
  rintro v14 w3 hx3 ⟨hL14, hf14⟩
  replace hL12 := hL12.ext hx3
  replace hB2 := hB2.ext hx3
  replace hE := hE.ext hx3
  refine R.alloc t24 nofun ?_
  intro b5 w4 hb5 hx4 hB5
  have ne2_5 : b2 ≠ b5 := by have := hB2.lt; omega
  replace hb5 := Nat.le_trans hE.size hb5
  replace hL12 := hL12.ext hx4
  replace hL14 := hL14.ext hx4
  replace hB2 := hB2.ext hx4
  replace hE := hE.ext hx4
  replace hB5 : Blk _ b5 24 #[.slice none 0 0, .int .i64 0] := hB5
  refine R.storeA t24 hB5 rfl rfl rfl rfl (ones2 hL12.one rfl) nofun ?_
  intro w5 hU5 hs5 hN5
  replace hL12 := hL12.upT hU5 hB5 (by decide)
  replace hL14 := hL14.upT hU5 hB5 (by decide)
  replace hB2 := hB2.up hU5 (fun h => ne2_5 h)
  replace hE := hE.own hU5 hb5
  replace hB5 : Blk _ b5 24 #[u12, .int .i64 h] := hN5
  clear hN5
  refine R.assign ?_
  refine R.nil ?_
  refine E.seq ?_
  refine E.regionP rfl ?_
  refine R.loadA t24 hB5 rfl rfl rfl trivial ?_
  refine R.move ?_
  refine R.callE2 ent40 (yLeast _ hL12.mat.choose_spec hL14.ints hF.l6 hF.x6 (by omega)) rfl rfl nofun ?_
  rintro v18 w6 hx6 ⟨u18, rfl, hQ18, hf18⟩
  replace hL12 := hL12.ext hx6
  replace hL14 := hL14.ext hx6
  replace hB2 := hB2.ext hx6
  replace hB5 := hB5.ext hx6
  replace hE := hE.ext hx6
  refine R.move ?_
  refine R.extract rfl rfl ?_
  refine R.extract rfl rfl ?_
  refine R.assign ?_
  refine R.assign ?_
  refine R.nil ?_
  refine E.seq ?_
  refine E.regionP rfl ?_
  refine R.loadA t24 hB2 rfl rfl rfl trivial ?_
  refine R.move ?_
  refine R.callE2 ent87 (rLeastF _ (hm.ext hE) (ho.ext hE) (by omega) hF.2 (by omega)) rfl rfl nofun ?_
  rintro v24 w7 hx7 ⟨u24, rfl, hQ24⟩
  replace hL12 := hL12.ext hx7
  replace hL14 := hL14.ext hx7
  replace hQ18 := hQ18.ext hx7
  replace hB2 := hB2.ext hx7
  replace hB5 := hB5.ext hx7
  replace hE := hE.ext hx7
  refine R.move ?_
  refine R.extract rfl rfl ?_
  refine R.extract rfl rfl ?_
  refine R.assign ?_
  refine R.assign ?_
  refine R.nil ?_
  refine E.seq ?_
  refine E.regionP rfl ?_
  refine R.move ?_
  refine R.move ?_
  refine R.eql (b := true) rfl rfl (by simp) ?_
  refine R.move ?_
  refine R.gT rfl rfl ?_
  refine R.move ?_
  refine R.gT rfl rfl ?_
  refine R.move ?_
  refine R.gT rfl rfl ?_
  refine R.callE1 ent50 (told35 _ hQ24 (by omega)) rfl nofun ?_
  rintro v33 w8 hx8 ⟨hT33, hf33⟩
  replace hL12 := hL12.ext hx8
  replace hL14 := hL14.ext hx8
  replace hQ18 := hQ18.ext hx8
  replace hQ24 := hQ24.ext hx8
  replace hB2 := hB2.ext hx8
  replace hB5 := hB5.ext hx8
  replace hE := hE.ext hx8
  refine R.gT rfl rfl ?_
  refine R.callE2 ent72 (same35t _ hQ18.row hT33.row (by omega)) rfl rfl nofun ?_
  rintro v34 w9 hx9 rfl
  replace hL12 := hL12.ext hx9
  replace hL14 := hL14.ext hx9
  replace hQ18 := hQ18.ext hx9
  replace hQ24 := hQ24.ext hx9
  replace hT33 := hT33.ext hx9
  replace hB2 := hB2.ext hx9
  replace hB5 := hB5.ext hx9
  replace hE := hE.ext hx9
  refine R.pickT rfl ?_
  refine R.move ?_
  refine R.gT rfl rfl ?_
  refine R.loadA t24 hB5 rfl rfl rfl trivial ?_
  refine R.gT rfl rfl ?_
  refine R.loadA t24 hB2 rfl rfl rfl trivial ?_
  refine R.gT rfl rfl ?_
  refine R.callE2 ent33 (kept _ hL12 (hm.ext hE) hF.l6 hF.x6) rfl rfl nofun ?_
  rintro v39 w10 hx10 rfl
  replace hL12 := hL12.ext hx10
  replace hL14 := hL14.ext hx10
  replace hQ18 := hQ18.ext hx10
  replace hQ24 := hQ24.ext hx10
  replace hT33 := hT33.ext hx10
  replace hB2 := hB2.ext hx10
  replace hB5 := hB5.ext hx10
  replace hE := hE.ext hx10
  refine R.pickT rfl ?_
  refine R.move ?_
  refine R.gT rfl rfl ?_
  refine R.move ?_
  refine R.gT rfl rfl ?_
  refine R.move ?_
  refine R.gT rfl rfl ?_
  refine R.callE2 ent83 (keptInts _ hL14 (ho.ext hE) (by omega)) rfl rfl nofun ?_
  rintro v44 w11 hx11 rfl
  replace hL12 := hL12.ext hx11
  replace hL14 := hL14.ext hx11
  replace hQ18 := hQ18.ext hx11
  replace hQ24 := hQ24.ext hx11
  replace hT33 := hT33.ext hx11
  replace hB2 := hB2.ext hx11
  replace hB5 := hB5.ext hx11
  replace hE := hE.ext hx11
  refine R.pickT rfl ?_
  refine R.assign ?_
  refine R.nil ?_
  refine E.ret ?_
  exact ret1 (.bool true) rfl rfl ⟨_, rfl, hE, rfl⟩
theorem retrieveLeast (w : World) {v vo : Value} {h : Int} {us : List Value} {xss : List (List Int)} {ord : List Int} (hm : Mat w v us xss) (hl : xss.length ≤ 9223372036854775807) (ho : Ints w vo ord) (hol : ord.length ≤ 9223372036854775807) :
    Calls Try.prog 14 #[.agg #[v, .int .i64 h], vo] w (Ret fun r w' => Ext w w' ∧ r = .bool true) := by
  cases hq : decide ((∀ xs ∈ xss, xs.length ≤ 10) ∧ xss.length ≤ 32)
  rotate_left
  rcases Nat.lt_or_ge 60 ord.length with hq60 | hq60
  · refine calls_E (args := [.agg #[v, .int .i64 h], vo]) 21 Try.func14 rfl rfl (by simp) ?_
    have hE : Ext w w := Upd.refl w
    refine E.seq ?_
    refine E.regionP rfl ?_
    refine R.box rfl nofun ?_
    intro b2 w1 hb2 hx1 hB2
    replace hb2 := Nat.le_trans hE.size hb2
    replace hE := hE.ext hx1
    replace hB2 : Blk _ b2 24 #[v, .int .i64 h] := hB2
    refine R.assign ?_
    refine R.nil ?_
    refine E.seq ?_
    refine E.regionP rfl ?_
    refine R.loadA t24 hB2 rfl rfl rfl trivial ?_
    refine R.callE1 ent17 (few _ (hm.ext hE) hl) rfl nofun ?_
    rintro v6 w2 hx2 rfl
    rw [hq]
    replace hB2 := hB2.ext hx2
    replace hE := hE.ext hx2
    refine R.not rfl ?_
    refine R.move ?_
    refine R.gT rfl rfl ?_
    refine R.move ?_
    refine R.gT rfl rfl ?_
    refine R.len Try.underlying35 ho rfl ?_
    refine R.gT rfl rfl ?_
    refine R.gtr (b := true) rfl rfl (decide_eq_true (by omega)) ?_
    refine R.pickF rfl ?_
    refine R.move ?_
    refine R.gF rfl rfl rfl ?_
    refine R.gF rfl rfl rfl ?_
    refine R.gF rfl rfl rfl ?_
    refine R.pickT rfl ?_
    refine R.move ?_
    refine R.gT rfl rfl ?_
    refine R.callE0 ent38 (awake35 _)  nofun ?_
    rintro v19 w3 hx3 rfl
    replace hB2 := hB2.ext hx3
    replace hE := hE.ext hx3
    refine R.pickT rfl ?_
    refine R.assign ?_
    refine R.nil ?_
    refine E.ret ?_
    exact ret1 (.bool true) rfl rfl ⟨_, rfl, hE, rfl⟩
  · refine calls_E (args := [.agg #[v, .int .i64 h], vo]) 21 Try.func14 rfl rfl (by simp) ?_
    have hE : Ext w w := Upd.refl w
    refine E.seq ?_
    refine E.regionP rfl ?_
    refine R.box rfl nofun ?_
    intro b2 w1 hb2 hx1 hB2
    replace hb2 := Nat.le_trans hE.size hb2
    replace hE := hE.ext hx1
    replace hB2 : Blk _ b2 24 #[v, .int .i64 h] := hB2
    refine R.assign ?_
    refine R.nil ?_
    refine E.seq ?_
    refine E.regionP rfl ?_
    refine R.loadA t24 hB2 rfl rfl rfl trivial ?_
    refine R.callE1 ent17 (few _ (hm.ext hE) hl) rfl nofun ?_
    rintro v6 w2 hx2 rfl
    rw [hq]
    replace hB2 := hB2.ext hx2
    replace hE := hE.ext hx2
    refine R.not rfl ?_
    refine R.move ?_
    refine R.gT rfl rfl ?_
    refine R.move ?_
    refine R.gT rfl rfl ?_
    refine R.len Try.underlying35 ho rfl ?_
    refine R.gT rfl rfl ?_
    refine R.gtr (b := false) rfl rfl (decide_eq_false (by omega)) ?_
    refine R.pickF rfl ?_
    refine R.move ?_
    refine R.gT rfl rfl ?_
    refine R.loadA t24 hB2 rfl rfl rfl trivial ?_
    refine R.gT rfl rfl ?_
    refine R.move ?_
    refine R.gT rfl rfl ?_
    refine R.callE2 ent48 (finds_ _ (hm.ext hE) (ho.ext hE) ⟨(of_decide_eq_true hq).2, (of_decide_eq_true hq).1⟩ (by omega)) rfl rfl nofun ?_
    rintro v16 w3 hx3 rfl
    replace hB2 := hB2.ext hx3
    replace hE := hE.ext hx3
    refine R.pickF rfl ?_
    refine R.move ?_
    refine R.gT rfl rfl ?_
    refine R.callE0 ent38 (awake35 _)  nofun ?_
    rintro v19 w4 hx4 rfl
    replace hB2 := hB2.ext hx4
    replace hE := hE.ext hx4
    refine R.pickT rfl ?_
    refine R.assign ?_
    refine R.nil ?_
    refine E.ret ?_
    exact ret1 (.bool true) rfl rfl ⟨_, rfl, hE, rfl⟩
  · refine calls_E (args := [.agg #[v, .int .i64 h], vo]) 21 Try.func14 rfl rfl (by simp) ?_
    have hE : Ext w w := Upd.refl w
    refine E.seq ?_
    refine E.regionP rfl ?_
    refine R.box rfl nofun ?_
    intro b2 w1 hb2 hx1 hB2
    replace hb2 := Nat.le_trans hE.size hb2
    replace hE := hE.ext hx1
    replace hB2 : Blk _ b2 24 #[v, .int .i64 h] := hB2
    refine R.assign ?_
    refine R.nil ?_
    refine E.seq ?_
    refine E.regionP rfl ?_
    refine R.loadA t24 hB2 rfl rfl rfl trivial ?_
    refine R.callE1 ent17 (few _ (hm.ext hE) hl) rfl nofun ?_
    rintro v6 w2 hx2 rfl
    rw [hq]
    replace hB2 := hB2.ext hx2
    replace hE := hE.ext hx2
    refine R.not rfl ?_
    refine R.move ?_
    refine R.gF rfl rfl rfl ?_
    refine R.gF rfl rfl rfl ?_
    refine R.gF rfl rfl rfl ?_
    refine R.pickT rfl ?_
    refine R.move ?_
    refine R.gF rfl rfl rfl ?_
    refine R.gF rfl rfl rfl ?_
    refine R.gF rfl rfl rfl ?_
    refine R.pickT rfl ?_
    refine R.move ?_
    refine R.gT rfl rfl ?_
    refine R.callE0 ent38 (awake35 _)  nofun ?_
    rintro v19 w3 hx3 rfl
    replace hB2 := hB2.ext hx3
    replace hE := hE.ext hx3
    refine R.pickT rfl ?_
    refine R.assign ?_
    refine R.nil ?_
    refine E.ret ?_
    exact ret1 (.bool true) rfl rfl ⟨_, rfl, hE, rfl⟩
end Go.Proofs.Ytfdmndkoiheebaa
