import Derived.Test.YtfdmndkoiheebaaZ12Ret4
import Derived.Test.YtfdmndkoiheebaaZ12J10
namespace Go.Proofs.Ytfdmndkoiheebaa
open Go Go.RowKit
theorem beginB_of {xss : List (List Int)} {h : Int} {ord : List Int} (hR : RightP xss h) (hO : OrdP xss ord) : beginB xss h ord = true := by
  simp only [beginB, Bool.and_eq_true, decide_eq_true_eq]
  exact ⟨rightB_true.2 hR, hO⟩
theorem playedP (w : World) {v vo vss : Value} {H m : Nat} {q : Bool} {us : List Value} {xss : List (List Int)} {ord : List Int} {ss : List (Int × Int × Int)} (hm : Mat w v us xss) (ho : Ints w vo ord) (hss : Steps w vss ss) (hRP : RightP xss (H : Int)) (hol : ord.length < 1000000) (hsl : ss.length < 1000000000) (hp : goP H ord xss 0 ss 0 = (m, q)) :
    Calls Try.prog 41 #[.agg #[v, .int .i64 H], vo, vss] w (Ret fun r w' => Ext w w' ∧ r = .tuple #[.int .i64 (m : Nat), .bool q]) := by
  have := played_ w hm ho hss hRP hol hsl; rw [hp] at this; exact this
theorem yCheckP (w : World) {v vo vss : Value} {h e : Int} {m : Nat} {us : List Value} {xss : List (List Int)} {ord : List Int} {ss : List (Int × Int × Int)} (hm : Mat w v us xss) (ho : Ints w vo ord) (hss : Steps w vss ss) (hl : xss.length < 1000000) (hx : ∀ xs ∈ xss, xs.length < 1000000) (hol : ord.length < 1000000) (hsl : ss.length < 1000000000) (hp : checkR xss h ord ss = (m, e)) :
    Calls Try.prog 46 #[.agg #[v, .int .i64 h], vo, vss] w (Ret fun r w' => Ext w w' ∧ r = .tuple #[.int .i64 (m : Nat), .int .i64 e]) := by
  have := yCheck w (h := h) hm ho hss hl hx hol hsl; rw [hp] at this; exact this
theorem yBoundP (w : World) {v vo : Value} {h e : Int} {m : Nat} {us : List Value} {xss : List (List Int)} {ord : List Int} (hm : Mat w v us xss) (ho : Ints w vo ord) (hl : xss.length < 1000000) (hx : ∀ xs ∈ xss, xs.length < 1000000) (hol : ord.length < 1000000000) (hp : boundR xss h ord = (m, e)) :
    Calls Try.prog 44 #[.agg #[v, .int .i64 h], vo] w (Ret fun r w' => Ext w w' ∧ r = .tuple #[.int .i64 (m : Nat), .int .i64 e]) := by
  have := yBound w (h := h) hm ho hl hx hol; rw [hp] at this; exact this
theorem yRunP (w : World) {v vo : Value} {h e : Int} {l : List (Int × Int × Int)} {us : List Value} {xss : List (List Int)} {ord : List Int} (hm : Mat w v us xss) (ho : Ints w vo ord) (hl : xss.length < 1000000) (hx : ∀ xs ∈ xss, xs.length < 1000000) (hol : ord.length < 100000) (hp : runR xss h ord = (l, e)) :
    Calls Try.prog 45 #[.agg #[v, .int .i64 h], vo] w (Ret fun r w' => Ext w w' ∧ ∃ u, r = .tuple #[u, .int .i64 e] ∧ Sl w' 68 3 u l.length (stepsC l) ∧ Fresh w u) := by
  have := yRun w (h := h) hm ho hl hx hol; rw [hp] at this; exact this
theorem yLeastP (w : World) {v vo : Value} {h e : Int} {l : List (Int × Int × Int)} {us : List Value} {xss : List (List Int)} {ord : List Int} (hm : Mat w v us xss) (ho : Ints w vo ord) (hl : xss.length < 1000000) (hx : ∀ xs ∈ xss, xs.length < 1000000) (hol : ord.length < 100000) (hp : leastR xss h ord = (l, e)) :
    Calls Try.prog 40 #[.agg #[v, .int .i64 h], vo] w (Ret fun r w' => Ext w w' ∧ ∃ u, r = .tuple #[u, .int .i64 e] ∧ Sl w' 68 3 u l.length (stepsC l) ∧ Fresh w u) := by
  have := yLeast w (h := h) hm ho hl hx hol; rw [hp] at this; exact this
theorem chk_kinds {xss : List (List Int)} {H : Nat} {ord : List Int} (hb : beginB xss H ord = true) {ss : List (Int × Int × Int)} (hl : ss.length ≤ 2000) :
    (∃ m, checkR xss H ord ss = (m, 0) ∧ goP H ord xss 0 ss 0 = (m, true)) ∨ (∃ m q, checkR xss H ord ss = (m, 350) ∧ goP H ord xss 0 ss 0 = (q, false)) ∨ (∃ m q, checkR xss H ord ss = (m, 351) ∧ goP H ord xss 0 ss 0 = (q, false)) := by
  rcases checkR_goP hb hl with ⟨h1, h2⟩ | ⟨h1 | h1, h2⟩
  · exact .inl ⟨_, Prod.ext rfl h1, h2⟩
  · exact .inr (.inl ⟨_, _, Prod.ext rfl h1, Prod.ext rfl h2⟩)
  · exact .inr (.inr ⟨_, _, Prod.ext rfl h1, Prod.ext rfl h2⟩)
set_option maxHeartbeats 400000 in
theorem retrieveBounds (w : World) {vl vos vss : Value} {st ht : Nat} {ls os : List Nat} {ss : List (Int × Int × Int)} (hl : U8s w vl ls) (hll : ls.length ≤ 9223372036854775807) (hls : ∀ x ∈ ls, x < 256) (ho : U8s w vos os) (hol : os.length ≤ 9223372036854775807) (hos : ∀ x ∈ os, x < 256) (hss : Steps w vss ss) (hssl : ss.length ≤ 9223372036854775807) :
    Calls Try.prog 12 #[.int .u8 st, .int .u8 ht, vl, vos, vss] w (Ret fun r w' => Ext w w' ∧ r = .bool true) := by
  have hn1 : 1 + st % 6 ≤ 6 := by omega
  have hH1 : 1 + ht % 6 ≤ 6 := by omega
  obtain ⟨H, hHd⟩ : ∃ H, 1 + ht % 6 = H := ⟨_, rfl⟩
  obtain ⟨n0, hnd⟩ : ∃ n, 1 + st % 6 = n := ⟨_, rfl⟩
  rw [hHd] at hH1
  rw [hnd] at hn1
  refine calls_E (args := [.int .u8 st, .int .u8 ht, vl, vos, vss]) 225 Try.func12 rfl rfl (by simp) ?_
  have hE : Ext w w := Upd.refl w
  refine E.seq ?_
  refine E.regionP rfl ?_
  refine R.assign ?_
  refine R.nil ?_
  refine E.seq ?_
  refine E.seq ?_
  refine E.regionP rfl ?_
  refine R.callE0 ent38 (awake35 _)  nofun ?_
  rintro v33 w1 hx1 rfl
  replace hE := hE.ext hx1
  refine R.not rfl ?_
  refine R.nil ?_
  refine E.condF rfl ?_
  refine E.skip ?_
  refine E.seq ?_
  refine E.regionP rfl ?_
  refine R.move ?_
  refine R.move ?_
  refine R.move ?_
  refine R.callE3 ent22 (madeE _ (hl.ext hE) hll hls hnd hHd) rfl rfl rfl nofun ?_
  rintro v38 w2 hx2 ⟨u38, us38, xss, rfl, hM38, hP38⟩
  replace hE := hE.ext hx2
  have hE0 := hE
  clear hE
  obtain ⟨wb, hwb⟩ : ∃ x, x = w2 := ⟨_, rfl⟩
  subst hwb
  have hE : Ext wb wb := Upd.refl _
  have hm := hM38.mat
  have hR : RightP xss (H : Int) := hP38.right (by omega) (by omega) (by omega) (by omega) (by omega)
  have hRb := hR.b
  have hlen := hP38.len
  replace ho := ho.ext hE0
  replace hss := hss.ext hE0
  refine R.alloc t24 nofun ?_
  intro b11 w3 hb11 hx3 hB11
  replace hb11 := Nat.le_trans hE.size hb11
  replace hE := hE.ext hx3
  replace hB11 : Blk _ b11 24 #[.slice none 0 0, .int .i64 0] := hB11
  refine R.storeA t24 hB11 rfl rfl rfl rfl (ones2 hm.row.one rfl) nofun ?_
  intro w4 hU4 hs4 hN4
  replace hE := hE.own hU4 hb11
  replace hB11 : Blk _ b11 24 #[u38, .int .i64 H] := hN4
  clear hN4
  refine R.nil ?_
  refine E.seq ?_
  refine E.regionP rfl ?_
  refine R.loadA t24 hB11 rfl rfl rfl trivial ?_
  refine R.move ?_
  refine R.callE3 ent39 (ordered _ (m := 20) (hm.ext hE) (ho.ext hE) hol hos hR.2.2.2.1 (sum_lengths hR) (by omega)) rfl rfl rfl nofun ?_
  rintro v41 w5 hx5 ⟨hS41, hf41⟩
  replace hB11 := hB11.ext hx5
  replace hE := hE.ext hx5
  obtain ⟨hOP, hOl⟩ := ordL_right (ls := os) (m := 20) hR
  generalize ordL xss os 20 = od at *
  have hb := beginB_of hR hOP
  have hbR : boundR xss H od = (wayL od xss, 0) := by simp [boundR, hb]
  refine R.assign ?_
  refine R.nil ?_
  refine E.seq ?_
  refine E.regionP rfl ?_
  refine R.loadA t24 hB11 rfl rfl rfl trivial ?_
  refine R.move ?_
  refine R.callE2 ent44 (yBoundP _ (hm.ext hE) hS41.row hR.l6 hR.x6 (by omega) hbR) rfl rfl nofun ?_
  rintro v45 w6 hx6 rfl
  replace hS41 := hS41.ext hx6
  replace hB11 := hB11.ext hx6
  replace hE := hE.ext hx6
  refine R.move ?_
  refine R.extract rfl rfl ?_
  refine R.extract rfl rfl ?_
  refine R.assign ?_
  refine R.assign ?_
  refine R.nil ?_
  refine E.seq ?_
  have hrk := runR_str hb
  rcases hrk with hrun | ⟨rs, hrun, hrs⟩
  · refine E.regionP rfl ?_
    refine R.loadA t24 hB11 rfl rfl rfl trivial ?_
    refine R.move ?_
    refine R.callE2 ent45 (yRunP _ (hm.ext hE) hS41.row hR.l6 hR.x6 (by omega) hrun) rfl rfl nofun ?_
    rintro v51 w7 hx7 ⟨u51, rfl, hS51, hf51⟩
    replace hS41 := hS41.ext hx7
    replace hB11 := hB11.ext hx7
    replace hE := hE.ext hx7
    refine R.move ?_
    refine R.extract rfl rfl ?_
    refine R.extract rfl rfl ?_
    refine R.assign ?_
    refine R.assign ?_
    refine R.nil ?_
    refine E.seq ?_
    refine E.seq ?_
    refine E.regionP rfl ?_
    refine R.move ?_
    refine R.neq (b := false) rfl rfl (by simp) ?_
    refine R.move ?_
    refine R.gT rfl rfl ?_
    refine R.move ?_
    refine R.gT rfl rfl ?_
    refine R.neq (b := true) rfl rfl (by simp) ?_
    refine R.gT rfl rfl ?_
    refine R.move ?_
    refine R.gT rfl rfl ?_
    refine R.move ?_
    refine R.gT rfl rfl ?_
    refine R.neq (b := false) rfl rfl (by simp) ?_
    refine R.gT rfl rfl ?_
    refine R.move ?_
    refine R.gT rfl rfl ?_
    refine R.move ?_
    refine R.gT rfl rfl ?_
    refine R.len Try.underlying62 hS51.row rfl ?_
    refine R.gT rfl rfl ?_
    refine R.gtr (b := false) rfl rfl (by simp) ?_
    refine R.gT rfl rfl ?_
    refine R.pickF rfl ?_
    refine R.gT rfl rfl ?_
    refine R.pickT rfl ?_
    refine R.pickF rfl ?_
    refine R.nil ?_
    refine E.condF rfl ?_
    refine E.skip ?_
    refine E.seq ?_
    refine E.seq ?_
    refine E.regionP rfl ?_
    refine R.move ?_
    refine R.eql (b := false) rfl rfl (decide_eq_false (by decide)) ?_
    refine R.nil ?_
    refine E.condF rfl ?_
    refine E.skip ?_
    refine E.seq ?_
    refine E.seq ?_
    refine E.regionP rfl ?_
    refine R.move ?_
    refine R.len Try.underlying62 hss rfl ?_
    refine R.leq rfl rfl rfl ?_
    refine R.nil ?_
    refine E.cutM (fun e wr => Ext wb wr ∧ SInts wr v41 od ∧ Sl wr 68 3 u51 ([] : List (Int × Int × Int)).length (stepsC ([] : List (Int × Int × Int))) ∧ Blk wr b11 24 #[u38, .int .i64 H] ∧ Has e [(4, vss), (11, .pointer (some ⟨b11, 0, none⟩)), (12, v41), (13, .int .i64 (wayL od xss : Nat)), (15, u51), (16, .int .i64 4)]) ?_ ?_
    · refine E.cond rfl (fun hc111 => ?_) (fun hc111 => ?_)
      · replace hc111 := dT hc111
        refine E.seq ?_
        have hs60 : ss.length ≤ 60 := by omega
        have hcg2 := chk_kinds hb (ss := ss) (by omega)
        rcases hcg2 with ⟨m, hck, hgp⟩ | ⟨m, q, hck, hgp⟩ | ⟨m, q, hck, hgp⟩
        · have hwm := goP_way ss xss 0 0 m hR hOP.1 Gone.start hgp
          refine E.regionP rfl ?_
          refine R.loadA t24 hB11 rfl rfl rfl trivial ?_
          refine R.move ?_
          refine R.move ?_
          refine R.callE3 ent46 (yCheckP _ (hm.ext hE) hS41.row (hss.ext hE) hR.l6 hR.x6 (by omega) (by omega) hck) rfl rfl rfl nofun ?_
          rintro v116 w8 hx8 rfl
          replace hS41 := hS41.ext hx8
          replace hS51 := hS51.ext hx8
          replace hB11 := hB11.ext hx8
          replace hE := hE.ext hx8
          refine R.move ?_
          refine R.extract rfl rfl ?_
          refine R.extract rfl rfl ?_
          refine R.assign ?_
          refine R.assign ?_
          refine R.nil ?_
          refine E.seq ?_
          refine E.regionP rfl ?_
          refine R.loadA t24 hB11 rfl rfl rfl trivial ?_
          refine R.move ?_
          refine R.move ?_
          refine R.callE3 ent41 (playedP _ (hm.ext hE) hS41.row (hss.ext hE) hR (by omega) (by omega) hgp) rfl rfl rfl nofun ?_
          rintro v123 w9 hx9 rfl
          replace hS41 := hS41.ext hx9
          replace hS51 := hS51.ext hx9
          replace hB11 := hB11.ext hx9
          replace hE := hE.ext hx9
          refine R.move ?_
          refine R.extract rfl rfl ?_
          refine R.extract rfl rfl ?_
          refine R.assign ?_
          refine R.assign ?_
          refine R.nil ?_
          refine E.seq ?_
          refine E.regionP rfl ?_
          refine R.move ?_
          refine R.move ?_
          refine R.eql (b := true) rfl rfl (decide_eq_true rfl) ?_
          refine R.neqB (b := false) Try.underlying4 rfl rfl (rfl) ?_
          refine R.move ?_
          refine R.gT rfl rfl ?_
          refine R.move ?_
          refine R.gT rfl rfl ?_
          refine R.move ?_
          refine R.gT rfl rfl ?_
          refine R.move ?_
          refine R.gT rfl rfl ?_
          refine R.move ?_
          refine R.gT rfl rfl ?_
          refine R.neq (b := false) rfl rfl (by simp) ?_
          refine R.gT rfl rfl ?_
          refine R.move ?_
          refine R.gT rfl rfl ?_
          refine R.move ?_
          refine R.gT rfl rfl ?_
          refine R.move ?_
          refine R.gT rfl rfl ?_
          refine R.lss (b := false) rfl rfl (decide_eq_false (by omega)) ?_
          refine R.gT rfl rfl ?_
          refine R.pickF rfl ?_
          refine R.gT rfl rfl ?_
          refine R.pickT rfl ?_
          refine R.pickF rfl ?_
          refine R.move ?_
          refine R.gT rfl rfl ?_
          refine R.move ?_
          refine R.gT rfl rfl ?_
          refine R.not rfl ?_
          refine R.gT rfl rfl ?_
          refine R.move ?_
          refine R.gF rfl rfl rfl ?_
          refine R.gF rfl rfl rfl ?_
          refine R.gT rfl rfl ?_
          refine R.pickF rfl ?_
          refine R.gT rfl rfl ?_
          refine R.move ?_
          refine R.gF rfl rfl rfl ?_
          refine R.gF rfl rfl rfl ?_
          refine R.gT rfl rfl ?_
          refine R.pickF rfl ?_
          refine R.pickF rfl ?_
          refine R.nil ?_
          refine E.condF rfl ?_
          refine E.skip ?_
          exact ⟨hE, hS41, hS51, hB11, rfl, rfl, rfl, rfl, rfl, rfl, trivial⟩
        · refine E.regionP rfl ?_
          refine R.loadA t24 hB11 rfl rfl rfl trivial ?_
          refine R.move ?_
          refine R.move ?_
          refine R.callE3 ent46 (yCheckP _ (hm.ext hE) hS41.row (hss.ext hE) hR.l6 hR.x6 (by omega) (by omega) hck) rfl rfl rfl nofun ?_
          rintro v116 w10 hx10 rfl
          replace hS41 := hS41.ext hx10
          replace hS51 := hS51.ext hx10
          replace hB11 := hB11.ext hx10
          replace hE := hE.ext hx10
          refine R.move ?_
          refine R.extract rfl rfl ?_
          refine R.extract rfl rfl ?_
          refine R.assign ?_
          refine R.assign ?_
          refine R.nil ?_
          refine E.seq ?_
          refine E.regionP rfl ?_
          refine R.loadA t24 hB11 rfl rfl rfl trivial ?_
          refine R.move ?_
          refine R.move ?_
          refine R.callE3 ent41 (playedP _ (hm.ext hE) hS41.row (hss.ext hE) hR (by omega) (by omega) hgp) rfl rfl rfl nofun ?_
          rintro v123 w11 hx11 rfl
          replace hS41 := hS41.ext hx11
          replace hS51 := hS51.ext hx11
          replace hB11 := hB11.ext hx11
          replace hE := hE.ext hx11
          refine R.move ?_
          refine R.extract rfl rfl ?_
          refine R.extract rfl rfl ?_
          refine R.assign ?_
          refine R.assign ?_
          refine R.nil ?_
          refine E.seq ?_
          refine E.regionP rfl ?_
          refine R.move ?_
          refine R.move ?_
          refine R.eql (b := false) rfl rfl (decide_eq_false (by decide)) ?_
          refine R.neqB (b := false) Try.underlying4 rfl rfl (rfl) ?_
          refine R.move ?_
          refine R.gT rfl rfl ?_
          refine R.move ?_
          refine R.gT rfl rfl ?_
          refine R.move ?_
          refine R.gF rfl rfl rfl ?_
          refine R.gF rfl rfl rfl ?_
          refine R.gF rfl rfl rfl ?_
          refine R.gF rfl rfl rfl ?_
          refine R.gU rfl rfl ?_
          refine R.gU rfl rfl ?_
          refine R.gU rfl rfl ?_
          refine R.gF rfl rfl rfl ?_
          refine R.gT rfl rfl ?_
          refine R.pickF rfl ?_
          refine R.pickF rfl ?_
          refine R.move ?_
          refine R.gT rfl rfl ?_
          refine R.move ?_
          refine R.gT rfl rfl ?_
          refine R.not rfl ?_
          refine R.gT rfl rfl ?_
          refine R.move ?_
          refine R.gT rfl rfl ?_
          refine R.move ?_
          refine R.gT rfl rfl ?_
          refine R.neq (b := false) rfl rfl (by simp) ?_
          refine R.gT rfl rfl ?_
          refine R.pickT rfl ?_
          refine R.gT rfl rfl ?_
          refine R.move ?_
          refine R.gF rfl rfl rfl ?_
          refine R.gF rfl rfl rfl ?_
          refine R.gT rfl rfl ?_
          refine R.pickF rfl ?_
          refine R.pickF rfl ?_
          refine R.nil ?_
          refine E.condF rfl ?_
          refine E.skip ?_
          exact ⟨hE, hS41, hS51, hB11, rfl, rfl, rfl, rfl, rfl, rfl, trivial⟩
        · refine E.regionP rfl ?_
          refine R.loadA t24 hB11 rfl rfl rfl trivial ?_
          refine R.move ?_
          refine R.move ?_
          refine R.callE3 ent46 (yCheckP _ (hm.ext hE) hS41.row (hss.ext hE) hR.l6 hR.x6 (by omega) (by omega) hck) rfl rfl rfl nofun ?_
          rintro v116 w12 hx12 rfl
          replace hS41 := hS41.ext hx12
          replace hS51 := hS51.ext hx12
          replace hB11 := hB11.ext hx12
          replace hE := hE.ext hx12
          refine R.move ?_
          refine R.extract rfl rfl ?_
          refine R.extract rfl rfl ?_
          refine R.assign ?_
          refine R.assign ?_
          refine R.nil ?_
          refine E.seq ?_
          refine E.regionP rfl ?_
          refine R.loadA t24 hB11 rfl rfl rfl trivial ?_
          refine R.move ?_
          refine R.move ?_
          refine R.callE3 ent41 (playedP _ (hm.ext hE) hS41.row (hss.ext hE) hR (by omega) (by omega) hgp) rfl rfl rfl nofun ?_
          rintro v123 w13 hx13 rfl
          replace hS41 := hS41.ext hx13
          replace hS51 := hS51.ext hx13
          replace hB11 := hB11.ext hx13
          replace hE := hE.ext hx13
          refine R.move ?_
          refine R.extract rfl rfl ?_
          refine R.extract rfl rfl ?_
          refine R.assign ?_
          refine R.assign ?_
          refine R.nil ?_
          refine E.seq ?_
          refine E.regionP rfl ?_
          refine R.move ?_
          refine R.move ?_
          refine R.eql (b := false) rfl rfl (decide_eq_false (by decide)) ?_
          refine R.neqB (b := false) Try.underlying4 rfl rfl (rfl) ?_
          refine R.move ?_
          refine R.gT rfl rfl ?_
          refine R.move ?_
          refine R.gT rfl rfl ?_
          refine R.move ?_
          refine R.gF rfl rfl rfl ?_
          refine R.gF rfl rfl rfl ?_
          refine R.gF rfl rfl rfl ?_
          refine R.gF rfl rfl rfl ?_
          refine R.gU rfl rfl ?_
          refine R.gU rfl rfl ?_
          refine R.gU rfl rfl ?_
          refine R.gF rfl rfl rfl ?_
          refine R.gT rfl rfl ?_
          refine R.pickF rfl ?_
          refine R.pickF rfl ?_
          refine R.move ?_
          refine R.gT rfl rfl ?_
          refine R.move ?_
          refine R.gT rfl rfl ?_
          refine R.not rfl ?_
          refine R.gT rfl rfl ?_
          refine R.move ?_
          refine R.gT rfl rfl ?_
          refine R.move ?_
          refine R.gT rfl rfl ?_
          refine R.neq (b := true) rfl rfl (by simp) ?_
          refine R.gT rfl rfl ?_
          refine R.pickT rfl ?_
          refine R.gT rfl rfl ?_
          refine R.move ?_
          refine R.gT rfl rfl ?_
          refine R.move ?_
          refine R.gT rfl rfl ?_
          refine R.neq (b := false) rfl rfl (by simp) ?_
          refine R.gT rfl rfl ?_
          refine R.pickT rfl ?_
          refine R.pickF rfl ?_
          refine R.nil ?_
          refine E.condF rfl ?_
          refine E.skip ?_
          exact ⟨hE, hS41, hS51, hB11, rfl, rfl, rfl, rfl, rfl, rfl, trivial⟩
      · replace hc111 := dF hc111
        refine E.skip ?_
        exact ⟨hE, hS41, hS51, hB11, rfl, rfl, rfl, rfl, rfl, rfl, trivial⟩
    · rintro e wr ⟨hE, hS41, hS51, hB11, hH⟩
      obtain ⟨e, rfl⟩ := hH.ex
      clear hH
      refine E.seq ?_
      have hlk := leastR_kind hb
      rcases hlk with ⟨h5, hL⟩ | ⟨_, hL, hno⟩ | ⟨ls1, hL, hls, hmin⟩
      · refine E.regionP rfl ?_
        refine R.loadA t24 hB11 rfl rfl rfl trivial ?_
        refine R.move ?_
        refine R.callE2 ent40 (yLeastP _ (hm.ext hE) hS41.row hR.l6 hR.x6 (by omega) hL) rfl rfl nofun ?_
        rintro v158 w14 hx14 ⟨u158, rfl, hQ158, hf158⟩
        replace hS41 := hS41.ext hx14
        replace hS51 := hS51.ext hx14
        replace hB11 := hB11.ext hx14
        replace hE := hE.ext hx14
        refine R.move ?_
        refine R.extract rfl rfl ?_
        refine R.extract rfl rfl ?_
        refine R.assign ?_
        refine R.assign ?_
        refine R.nil ?_
        refine E.seq ?_
        refine E.seq ?_
        refine E.regionP rfl ?_
        refine R.move ?_
        refine R.eql (b := true) rfl rfl (decide_eq_true rfl) ?_
        refine R.nil ?_
        refine E.condT rfl ?_
        refine E.seq ?_
        refine E.regionP rfl ?_
        refine R.loadA t24 hB11 rfl rfl rfl trivial ?_
        refine R.callE1 ent29 (roomP _ ⟨_, hm.ext hE⟩ hR.l6 hR.x6 hR.room) rfl nofun ?_
        rintro v165 w15 hx15 rfl
        replace hS41 := hS41.ext hx15
        replace hS51 := hS51.ext hx15
        replace hQ158 := hQ158.ext hx15
        replace hB11 := hB11.ext hx15
        replace hE := hE.ext hx15
        refine R.move ?_
        refine R.extract rfl rfl ?_
        refine R.extract rfl rfl ?_
        refine R.assign ?_
        refine R.assign ?_
        refine R.nil ?_
        refine E.seq ?_
        have hco := hR.count
        have hmu : xss.length * H ≤ 30 * 6 := Nat.mul_le_mul hR.2.2.2.1 hH1
        have h6 : 6 < xss.flatten.length ∨ xss.flatten.length ≤ 6 := Nat.lt_or_ge _ _
        rcases h6 with h6 | h6
        · refine E.regionP rfl ?_
          refine R.fld fa24_0 rfl ?_
          refine R.loadB t22 hB11 rfl rfl rfl trivial ?_
          refine R.len Try.underlying22 hm.row rfl ?_
          refine R.fld fa24_1 rfl ?_
          refine R.loadB t3 hB11 rfl rfl rfl trivial ?_
          refine R.mulN (m := xss.length) (n := H) rfl rfl (by omega) ?_
          refine R.move ?_
          refine R.subN (m := xss.length * H) (n := xss.length * H - xss.flatten.length) rfl rfl (by omega) (by omega) ?_
          refine R.gtr (b := true) rfl rfl (decide_eq_true (by omega)) ?_
          refine R.move ?_
          refine R.gF rfl rfl rfl ?_
          refine R.gF rfl rfl rfl ?_
          refine R.gF rfl rfl rfl ?_
          refine R.gF rfl rfl rfl ?_
          refine R.pickT rfl ?_
          refine R.assign ?_
          refine R.nil ?_
          refine E.ret ?_
          exact ret1 (.bool true) rfl rfl ⟨_, rfl, hE0.ext hE, rfl⟩
        · refine E.regionP rfl ?_
          refine R.fld fa24_0 rfl ?_
          refine R.loadB t22 hB11 rfl rfl rfl trivial ?_
          refine R.len Try.underlying22 hm.row rfl ?_
          refine R.fld fa24_1 rfl ?_
          refine R.loadB t3 hB11 rfl rfl rfl trivial ?_
          refine R.mulN (m := xss.length) (n := H) rfl rfl (by omega) ?_
          refine R.move ?_
          refine R.subN (m := xss.length * H) (n := xss.length * H - xss.flatten.length) rfl rfl (by omega) (by omega) ?_
          refine R.gtr (b := false) rfl rfl (decide_eq_false (by omega)) ?_
          refine R.move ?_
          refine R.gT rfl rfl ?_
          refine R.fld fa24_0 rfl ?_
          refine R.gT rfl rfl ?_
          refine R.loadB t22 hB11 rfl rfl rfl trivial ?_
          refine R.gT rfl rfl ?_
          refine R.len Try.underlying22 hm.row rfl ?_
          refine R.gT rfl rfl ?_
          refine R.gtr (b := true) rfl rfl (decide_eq_true (by omega)) ?_
          refine R.pickF rfl ?_
          refine R.assign ?_
          refine R.nil ?_
          refine E.ret ?_
          exact ret1 (.bool true) rfl rfl ⟨_, rfl, hE0.ext hE, rfl⟩
      · refine E.regionP rfl ?_
        refine R.loadA t24 hB11 rfl rfl rfl trivial ?_
        refine R.move ?_
        refine R.callE2 ent40 (yLeastP _ (hm.ext hE) hS41.row hR.l6 hR.x6 (by omega) hL) rfl rfl nofun ?_
        rintro v158 w16 hx16 ⟨u158, rfl, hQ158, hf158⟩
        replace hS41 := hS41.ext hx16
        replace hS51 := hS51.ext hx16
        replace hB11 := hB11.ext hx16
        replace hE := hE.ext hx16
        refine R.move ?_
        refine R.extract rfl rfl ?_
        refine R.extract rfl rfl ?_
        refine R.assign ?_
        refine R.assign ?_
        refine R.nil ?_
        refine E.seq ?_
        refine E.seq ?_
        refine E.regionP rfl ?_
        refine R.move ?_
        refine R.eql (b := false) rfl rfl (decide_eq_false (by decide)) ?_
        refine R.nil ?_
        refine E.condF rfl ?_
        refine E.skip ?_
        refine E.seq ?_
        refine E.seq ?_
        refine E.regionP rfl ?_
        refine R.move ?_
        refine R.eql (b := true) rfl rfl (decide_eq_true rfl) ?_
        refine R.nil ?_
        refine E.condT rfl ?_
        refine E.seq ?_
        refine E.regionP rfl ?_
        refine R.move ?_
        refine R.eql (b := true) rfl rfl (decide_eq_true rfl) ?_
        refine R.move ?_
        refine R.gT rfl rfl ?_
        refine R.move ?_
        refine R.gT rfl rfl ?_
        refine R.len Try.underlying62 hQ158.row rfl ?_
        refine R.gT rfl rfl ?_
        refine R.eql (b := true) rfl rfl (decide_eq_true rfl) ?_
        refine R.pickT rfl ?_
        refine R.assign ?_
        refine R.nil ?_
        refine E.ret ?_
        exact ret1 (.bool true) rfl rfl ⟨_, rfl, hE0.ext hE, rfl⟩
      · have hgl := hls.goP (Nat.zero_le _) 0
        rw [Nat.zero_add] at hgl
        have hll9 := hls.len
        have hlt := hls.tri (GoodJ.start hb)
        have hlw := hls.way (GoodJ.start hb) Gone.start
        refine E.regionP rfl ?_
        refine R.loadA t24 hB11 rfl rfl rfl trivial ?_
        refine R.move ?_
        refine R.callE2 ent40 (yLeastP _ (hm.ext hE) hS41.row hR.l6 hR.x6 (by omega) hL) rfl rfl nofun ?_
        rintro v158 w17 hx17 ⟨u158, rfl, hQ158, hf158⟩
        replace hS41 := hS41.ext hx17
        replace hS51 := hS51.ext hx17
        replace hB11 := hB11.ext hx17
        replace hE := hE.ext hx17
        refine R.move ?_
        refine R.extract rfl rfl ?_
        refine R.extract rfl rfl ?_
        refine R.assign ?_
        refine R.assign ?_
        refine R.nil ?_
        refine E.seq ?_
        refine E.seq ?_
        refine E.regionP rfl ?_
        refine R.move ?_
        refine R.eql (b := false) rfl rfl (decide_eq_false (by decide)) ?_
        refine R.nil ?_
        refine E.condF rfl ?_
        refine E.skip ?_
        refine E.seq ?_
        refine E.seq ?_
        refine E.regionP rfl ?_
        refine R.move ?_
        refine R.eql (b := false) rfl rfl (decide_eq_false (by decide)) ?_
        refine R.nil ?_
        refine E.condF rfl ?_
        refine E.skip ?_
        refine E.seq ?_
        refine E.regionP rfl ?_
        refine R.loadA t24 hB11 rfl rfl rfl trivial ?_
        refine R.move ?_
        refine R.move ?_
        refine R.callE3 ent41 (playedP _ (hm.ext hE) hS41.row hQ158.row hR (by omega) (by have := leastR_len (xss := xss) (h := (H : Int)) (ord := od); rw [hL] at this; simp only at this; omega) hgl) rfl rfl rfl nofun ?_
        rintro v196 w18 hx18 rfl
        replace hS41 := hS41.ext hx18
        replace hS51 := hS51.ext hx18
        replace hQ158 := hQ158.ext hx18
        replace hB11 := hB11.ext hx18
        replace hE := hE.ext hx18
        refine R.move ?_
        refine R.extract rfl rfl ?_
        refine R.extract rfl rfl ?_
        refine R.assign ?_
        refine R.assign ?_
        refine R.nil ?_
        refine E.seq ?_
        refine E.regionP rfl ?_
        refine R.loadA t24 hB11 rfl rfl rfl trivial ?_
        refine R.move ?_
        refine R.move ?_
        refine R.callE3 ent41 (played_ _ (hm.ext hE) hS41.row hS51.row hR (by omega) (by simp)) rfl rfl rfl nofun ?_
        rintro v203 w19 hx19 rfl
        replace hS41 := hS41.ext hx19
        replace hS51 := hS51.ext hx19
        replace hQ158 := hQ158.ext hx19
        replace hB11 := hB11.ext hx19
        replace hE := hE.ext hx19
        refine R.move ?_
        refine R.extract rfl rfl ?_
        refine R.extract rfl rfl ?_
        refine R.assign ?_
        refine R.assign ?_
        refine R.nil ?_
        refine E.seq ?_
        refine E.regionP rfl ?_
        refine R.move ?_
        refine R.eql (b := true) rfl rfl (decide_eq_true rfl) ?_
        refine R.move ?_
        refine R.gT rfl rfl ?_
        refine R.move ?_
        refine R.pickT rfl ?_
        refine R.move ?_
        refine R.gT rfl rfl ?_
        refine R.move ?_
        refine R.gT rfl rfl ?_
        refine R.move ?_
        refine R.gT rfl rfl ?_
        refine R.geq (b := true) rfl rfl (decide_eq_true (by omega)) ?_
        refine R.pickT rfl ?_
        refine R.move ?_
        refine R.gT rfl rfl ?_
        refine R.move ?_
        refine R.gT rfl rfl ?_
        refine R.neq (b := true) rfl rfl (by simp) ?_
        refine R.gT rfl rfl ?_
        refine R.move ?_
        refine R.gF rfl rfl rfl ?_
        refine R.gF rfl rfl rfl ?_
        refine R.gF rfl rfl rfl ?_
        refine R.gT rfl rfl ?_
        refine R.pickT rfl ?_
        refine R.pickT rfl ?_
        refine R.assign ?_
        refine R.nil ?_
        refine E.ret ?_
        exact ret1 (.bool true) rfl rfl ⟨_, rfl, hE0.ext hE, rfl⟩
  · have hgr := hrs.goP (Nat.zero_le _) 0
    rw [Nat.zero_add] at hgr
    have hwr := hrs.way (GoodJ.start hb) Gone.start
    have hrl := runR_len (xss := xss) (h := (H : Int)) (ord := od)
    rw [hrun] at hrl
    replace hrl : rs.length ≤ 7 * od.length + 7 := hrl
    have hcr : checkR xss H od rs = (cnt rs, 0) := by
      rcases checkR_goP hb (ss := rs) (by omega) with ⟨h1, h2⟩ | ⟨_, h2⟩
      · rw [hgr] at h2; exact Prod.ext (Prod.mk.inj h2).1.symm h1
      · rw [hgr] at h2; cases h2
    refine E.regionP rfl ?_
    refine R.loadA t24 hB11 rfl rfl rfl trivial ?_
    refine R.move ?_
    refine R.callE2 ent45 (yRunP _ (hm.ext hE) hS41.row hR.l6 hR.x6 (by omega) hrun) rfl rfl nofun ?_
    rintro v51 w20 hx20 ⟨u51, rfl, hS51, hf51⟩
    replace hS41 := hS41.ext hx20
    replace hB11 := hB11.ext hx20
    replace hE := hE.ext hx20
    refine R.move ?_
    refine R.extract rfl rfl ?_
    refine R.extract rfl rfl ?_
    refine R.assign ?_
    refine R.assign ?_
    refine R.nil ?_
    refine E.seq ?_
    refine E.seq ?_
    refine E.regionP rfl ?_
    refine R.move ?_
    refine R.neq (b := false) rfl rfl (by simp) ?_
    refine R.move ?_
    refine R.gT rfl rfl ?_
    refine R.move ?_
    refine R.gT rfl rfl ?_
    refine R.neq (b := false) rfl rfl (by simp) ?_
    refine R.gT rfl rfl ?_
    refine R.move ?_
    refine R.gF rfl rfl rfl ?_
    refine R.gF rfl rfl rfl ?_
    refine R.gF rfl rfl rfl ?_
    refine R.gU rfl rfl ?_
    refine R.gU rfl rfl ?_
    refine R.gU rfl rfl ?_
    refine R.gF rfl rfl rfl ?_
    refine R.gT rfl rfl ?_
    refine R.pickF rfl ?_
    refine R.pickF rfl ?_
    refine R.nil ?_
    refine E.condF rfl ?_
    refine E.skip ?_
    refine E.seq ?_
    refine E.seq ?_
    refine E.regionP rfl ?_
    refine R.move ?_
    refine R.eql (b := true) rfl rfl (decide_eq_true rfl) ?_
    refine R.nil ?_
    refine E.cutM (fun e wr => Ext wb wr ∧ SInts wr v41 od ∧ Sl wr 68 3 u51 rs.length (stepsC rs) ∧ Blk wr b11 24 #[u38, .int .i64 H] ∧ Has e [(4, vss), (11, .pointer (some ⟨b11, 0, none⟩)), (12, v41), (13, .int .i64 (wayL od xss : Nat)), (15, u51), (16, .int .i64 0)]) ?_ ?_
    · refine E.condT rfl ?_
      refine E.seq ?_
      refine E.regionP rfl ?_
      refine R.loadA t24 hB11 rfl rfl rfl trivial ?_
      refine R.move ?_
      refine R.move ?_
      refine R.callE3 ent41 (playedP _ (hm.ext hE) hS41.row hS51.row hR (by omega) (by omega) hgr) rfl rfl rfl nofun ?_
      rintro v75 w21 hx21 rfl
      replace hS41 := hS41.ext hx21
      replace hS51 := hS51.ext hx21
      replace hB11 := hB11.ext hx21
      replace hE := hE.ext hx21
      refine R.move ?_
      refine R.extract rfl rfl ?_
      refine R.extract rfl rfl ?_
      refine R.assign ?_
      refine R.assign ?_
      refine R.nil ?_
      refine E.seq ?_
      refine E.regionP rfl ?_
      refine R.loadA t24 hB11 rfl rfl rfl trivial ?_
      refine R.move ?_
      refine R.move ?_
      refine R.callE3 ent46 (yCheckP _ (hm.ext hE) hS41.row hS51.row hR.l6 hR.x6 (by omega) (by omega) hcr) rfl rfl rfl nofun ?_
      rintro v82 w22 hx22 rfl
      replace hS41 := hS41.ext hx22
      replace hS51 := hS51.ext hx22
      replace hB11 := hB11.ext hx22
      replace hE := hE.ext hx22
      refine R.move ?_
      refine R.extract rfl rfl ?_
      refine R.extract rfl rfl ?_
      refine R.assign ?_
      refine R.assign ?_
      refine R.nil ?_
      refine E.seq ?_
      have hw0 : wayL od xss = 0 ∨ 0 < wayL od xss := Nat.eq_zero_or_pos _
      rcases hw0 with hw0 | hw0
      · have hc0 := hrs.free (GoodJ.start hb) Gone.start hw0
        refine E.regionP rfl ?_
        refine R.move ?_
        refine R.not rfl ?_
        refine R.move ?_
        refine R.gT rfl rfl ?_
        refine R.move ?_
        refine R.gT rfl rfl ?_
        refine R.neq (b := false) rfl rfl (by simp) ?_
        refine R.pickF rfl ?_
        refine R.move ?_
        refine R.gT rfl rfl ?_
        refine R.move ?_
        refine R.gT rfl rfl ?_
        refine R.move ?_
        refine R.gT rfl rfl ?_
        refine R.neq (b := false) rfl rfl (by simp) ?_
        refine R.pickF rfl ?_
        refine R.move ?_
        refine R.gT rfl rfl ?_
        refine R.move ?_
        refine R.gT rfl rfl ?_
        refine R.move ?_
        refine R.gT rfl rfl ?_
        refine R.lss (b := false) rfl rfl (decide_eq_false (by omega)) ?_
        refine R.pickF rfl ?_
        refine R.move ?_
        refine R.gT rfl rfl ?_
        refine R.move ?_
        refine R.gT rfl rfl ?_
        refine R.eql (b := true) rfl rfl (decide_eq_true (by omega)) ?_
        refine R.gT rfl rfl ?_
        refine R.move ?_
        refine R.gT rfl rfl ?_
        refine R.move ?_
        refine R.gT rfl rfl ?_
        refine R.gtr (b := false) rfl rfl (decide_eq_false (by omega)) ?_
        refine R.gT rfl rfl ?_
        refine R.pickT rfl ?_
        refine R.pickF rfl ?_
        refine R.nil ?_
        refine E.condF rfl ?_
        refine E.skip ?_
        exact ⟨hE, hS41, hS51, hB11, rfl, rfl, rfl, rfl, rfl, rfl, trivial⟩
      · refine E.regionP rfl ?_
        refine R.move ?_
        refine R.not rfl ?_
        refine R.move ?_
        refine R.gT rfl rfl ?_
        refine R.move ?_
        refine R.gT rfl rfl ?_
        refine R.neq (b := false) rfl rfl (by simp) ?_
        refine R.pickF rfl ?_
        refine R.move ?_
        refine R.gT rfl rfl ?_
        refine R.move ?_
        refine R.gT rfl rfl ?_
        refine R.move ?_
        refine R.gT rfl rfl ?_
        refine R.neq (b := false) rfl rfl (by simp) ?_
        refine R.pickF rfl ?_
        refine R.move ?_
        refine R.gT rfl rfl ?_
        refine R.move ?_
        refine R.gT rfl rfl ?_
        refine R.move ?_
        refine R.gT rfl rfl ?_
        refine R.lss (b := false) rfl rfl (decide_eq_false (by omega)) ?_
        refine R.pickF rfl ?_
        refine R.move ?_
        refine R.gT rfl rfl ?_
        refine R.move ?_
        refine R.gT rfl rfl ?_
        refine R.eql (b := false) rfl rfl (decide_eq_false (by omega)) ?_
        refine R.gT rfl rfl ?_
        refine R.move ?_
        refine R.gF rfl rfl rfl ?_
        refine R.gF rfl rfl rfl ?_
        refine R.gT rfl rfl ?_
        refine R.pickF rfl ?_
        refine R.pickF rfl ?_
        refine R.nil ?_
        refine E.condF rfl ?_
        refine E.skip ?_
        exact ⟨hE, hS41, hS51, hB11, rfl, rfl, rfl, rfl, rfl, rfl, trivial⟩
    · rintro e wr ⟨hE, hS41, hS51, hB11, hH⟩
      obtain ⟨e, rfl⟩ := hH.ex
      clear hH
      refine E.seq ?_
      refine E.seq ?_
      refine E.regionP rfl ?_
      refine R.move ?_
      refine R.len Try.underlying62 hss rfl ?_
      refine R.leq rfl rfl rfl ?_
      refine R.nil ?_
      refine E.cutM (fun e wr => Ext wb wr ∧ SInts wr v41 od ∧ Sl wr 68 3 u51 rs.length (stepsC rs) ∧ Blk wr b11 24 #[u38, .int .i64 H] ∧ Has e [(4, vss), (11, .pointer (some ⟨b11, 0, none⟩)), (12, v41), (13, .int .i64 (wayL od xss : Nat)), (15, u51), (16, .int .i64 0)]) ?_ ?_
      · refine E.cond rfl (fun hc111 => ?_) (fun hc111 => ?_)
        · replace hc111 := dT hc111
          refine E.seq ?_
          have hs60 : ss.length ≤ 60 := by omega
          have hcg2 := chk_kinds hb (ss := ss) (by omega)
          rcases hcg2 with ⟨m, hck, hgp⟩ | ⟨m, q, hck, hgp⟩ | ⟨m, q, hck, hgp⟩
          · have hwm := goP_way ss xss 0 0 m hR hOP.1 Gone.start hgp
            refine E.regionP rfl ?_
            refine R.loadA t24 hB11 rfl rfl rfl trivial ?_
            refine R.move ?_
            refine R.move ?_
            refine R.callE3 ent46 (yCheckP _ (hm.ext hE) hS41.row (hss.ext hE) hR.l6 hR.x6 (by omega) (by omega) hck) rfl rfl rfl nofun ?_
            rintro v116 w23 hx23 rfl
            replace hS41 := hS41.ext hx23
            replace hS51 := hS51.ext hx23
            replace hB11 := hB11.ext hx23
            replace hE := hE.ext hx23
            refine R.move ?_
            refine R.extract rfl rfl ?_
            refine R.extract rfl rfl ?_
            refine R.assign ?_
            refine R.assign ?_
            refine R.nil ?_
            refine E.seq ?_
            refine E.regionP rfl ?_
            refine R.loadA t24 hB11 rfl rfl rfl trivial ?_
            refine R.move ?_
            refine R.move ?_
            refine R.callE3 ent41 (playedP _ (hm.ext hE) hS41.row (hss.ext hE) hR (by omega) (by omega) hgp) rfl rfl rfl nofun ?_
            rintro v123 w24 hx24 rfl
            replace hS41 := hS41.ext hx24
            replace hS51 := hS51.ext hx24
            replace hB11 := hB11.ext hx24
            replace hE := hE.ext hx24
            refine R.move ?_
            refine R.extract rfl rfl ?_
            refine R.extract rfl rfl ?_
            refine R.assign ?_
            refine R.assign ?_
            refine R.nil ?_
            refine E.seq ?_
            refine E.regionP rfl ?_
            refine R.move ?_
            refine R.move ?_
            refine R.eql (b := true) rfl rfl (decide_eq_true rfl) ?_
            refine R.neqB (b := false) Try.underlying4 rfl rfl (rfl) ?_
            refine R.move ?_
            refine R.gT rfl rfl ?_
            refine R.move ?_
            refine R.gT rfl rfl ?_
            refine R.move ?_
            refine R.gT rfl rfl ?_
            refine R.move ?_
            refine R.gT rfl rfl ?_
            refine R.move ?_
            refine R.gT rfl rfl ?_
            refine R.neq (b := false) rfl rfl (by simp) ?_
            refine R.gT rfl rfl ?_
            refine R.move ?_
            refine R.gT rfl rfl ?_
            refine R.move ?_
            refine R.gT rfl rfl ?_
            refine R.move ?_
            refine R.gT rfl rfl ?_
            refine R.lss (b := false) rfl rfl (decide_eq_false (by omega)) ?_
            refine R.gT rfl rfl ?_
            refine R.pickF rfl ?_
            refine R.gT rfl rfl ?_
            refine R.pickT rfl ?_
            refine R.pickF rfl ?_
            refine R.move ?_
            refine R.gT rfl rfl ?_
            refine R.move ?_
            refine R.gT rfl rfl ?_
            refine R.not rfl ?_
            refine R.gT rfl rfl ?_
            refine R.move ?_
            refine R.gF rfl rfl rfl ?_
            refine R.gF rfl rfl rfl ?_
            refine R.gT rfl rfl ?_
            refine R.pickF rfl ?_
            refine R.gT rfl rfl ?_
            refine R.move ?_
            refine R.gF rfl rfl rfl ?_
            refine R.gF rfl rfl rfl ?_
            refine R.gT rfl rfl ?_
            refine R.pickF rfl ?_
            refine R.pickF rfl ?_
            refine R.nil ?_
            refine E.condF rfl ?_
            refine E.skip ?_
            exact ⟨hE, hS41, hS51, hB11, rfl, rfl, rfl, rfl, rfl, rfl, trivial⟩
          · refine E.regionP rfl ?_
            refine R.loadA t24 hB11 rfl rfl rfl trivial ?_
            refine R.move ?_
            refine R.move ?_
            refine R.callE3 ent46 (yCheckP _ (hm.ext hE) hS41.row (hss.ext hE) hR.l6 hR.x6 (by omega) (by omega) hck) rfl rfl rfl nofun ?_
            rintro v116 w25 hx25 rfl
            replace hS41 := hS41.ext hx25
            replace hS51 := hS51.ext hx25
            replace hB11 := hB11.ext hx25
            replace hE := hE.ext hx25
            refine R.move ?_
            refine R.extract rfl rfl ?_
            refine R.extract rfl rfl ?_
            refine R.assign ?_
            refine R.assign ?_
            refine R.nil ?_
            refine E.seq ?_
            refine E.regionP rfl ?_
            refine R.loadA t24 hB11 rfl rfl rfl trivial ?_
            refine R.move ?_
            refine R.move ?_
            refine R.callE3 ent41 (playedP _ (hm.ext hE) hS41.row (hss.ext hE) hR (by omega) (by omega) hgp) rfl rfl rfl nofun ?_
            rintro v123 w26 hx26 rfl
            replace hS41 := hS41.ext hx26
            replace hS51 := hS51.ext hx26
            replace hB11 := hB11.ext hx26
            replace hE := hE.ext hx26
            refine R.move ?_
            refine R.extract rfl rfl ?_
            refine R.extract rfl rfl ?_
            refine R.assign ?_
            refine R.assign ?_
            refine R.nil ?_
            refine E.seq ?_
            refine E.regionP rfl ?_
            refine R.move ?_
            refine R.move ?_
            refine R.eql (b := false) rfl rfl (decide_eq_false (by decide)) ?_
            refine R.neqB (b := false) Try.underlying4 rfl rfl (rfl) ?_
            refine R.move ?_
            refine R.gT rfl rfl ?_
            refine R.move ?_
            refine R.gT rfl rfl ?_
            refine R.move ?_
            refine R.gF rfl rfl rfl ?_
            refine R.gF rfl rfl rfl ?_
            refine R.gF rfl rfl rfl ?_
            refine R.gF rfl rfl rfl ?_
            refine R.gU rfl rfl ?_
            refine R.gU rfl rfl ?_
            refine R.gU rfl rfl ?_
            refine R.gF rfl rfl rfl ?_
            refine R.gT rfl rfl ?_
            refine R.pickF rfl ?_
            refine R.pickF rfl ?_
            refine R.move ?_
            refine R.gT rfl rfl ?_
            refine R.move ?_
            refine R.gT rfl rfl ?_
            refine R.not rfl ?_
            refine R.gT rfl rfl ?_
            refine R.move ?_
            refine R.gT rfl rfl ?_
            refine R.move ?_
            refine R.gT rfl rfl ?_
            refine R.neq (b := false) rfl rfl (by simp) ?_
            refine R.gT rfl rfl ?_
            refine R.pickT rfl ?_
            refine R.gT rfl rfl ?_
            refine R.move ?_
            refine R.gF rfl rfl rfl ?_
            refine R.gF rfl rfl rfl ?_
            refine R.gT rfl rfl ?_
            refine R.pickF rfl ?_
            refine R.pickF rfl ?_
            refine R.nil ?_
            refine E.condF rfl ?_
            refine E.skip ?_
            exact ⟨hE, hS41, hS51, hB11, rfl, rfl, rfl, rfl, rfl, rfl, trivial⟩
          · refine E.regionP rfl ?_
            refine R.loadA t24 hB11 rfl rfl rfl trivial ?_
            refine R.move ?_
            refine R.move ?_
            refine R.callE3 ent46 (yCheckP _ (hm.ext hE) hS41.row (hss.ext hE) hR.l6 hR.x6 (by omega) (by omega) hck) rfl rfl rfl nofun ?_
            rintro v116 w27 hx27 rfl
            replace hS41 := hS41.ext hx27
            replace hS51 := hS51.ext hx27
            replace hB11 := hB11.ext hx27
            replace hE := hE.ext hx27
            refine R.move ?_
            refine R.extract rfl rfl ?_
            refine R.extract rfl rfl ?_
            refine R.assign ?_
            refine R.assign ?_
            refine R.nil ?_
            refine E.seq ?_
            refine E.regionP rfl ?_
            refine R.loadA t24 hB11 rfl rfl rfl trivial ?_
            refine R.move ?_
            refine R.move ?_
            refine R.callE3 ent41 (playedP _ (hm.ext hE) hS41.row (hss.ext hE) hR (by omega) (by omega) hgp) rfl rfl rfl nofun ?_
            rintro v123 w28 hx28 rfl
            replace hS41 := hS41.ext hx28
            replace hS51 := hS51.ext hx28
            replace hB11 := hB11.ext hx28
            replace hE := hE.ext hx28
            refine R.move ?_
            refine R.extract rfl rfl ?_
            refine R.extract rfl rfl ?_
            refine R.assign ?_
            refine R.assign ?_
            refine R.nil ?_
            refine E.seq ?_
            refine E.regionP rfl ?_
            refine R.move ?_
            refine R.move ?_
            refine R.eql (b := false) rfl rfl (decide_eq_false (by decide)) ?_
            refine R.neqB (b := false) Try.underlying4 rfl rfl (rfl) ?_
            refine R.move ?_
            refine R.gT rfl rfl ?_
            refine R.move ?_
            refine R.gT rfl rfl ?_
            refine R.move ?_
            refine R.gF rfl rfl rfl ?_
            refine R.gF rfl rfl rfl ?_
            refine R.gF rfl rfl rfl ?_
            refine R.gF rfl rfl rfl ?_
            refine R.gU rfl rfl ?_
            refine R.gU rfl rfl ?_
            refine R.gU rfl rfl ?_
            refine R.gF rfl rfl rfl ?_
            refine R.gT rfl rfl ?_
            refine R.pickF rfl ?_
            refine R.pickF rfl ?_
            refine R.move ?_
            refine R.gT rfl rfl ?_
            refine R.move ?_
            refine R.gT rfl rfl ?_
            refine R.not rfl ?_
            refine R.gT rfl rfl ?_
            refine R.move ?_
            refine R.gT rfl rfl ?_
            refine R.move ?_
            refine R.gT rfl rfl ?_
            refine R.neq (b := true) rfl rfl (by simp) ?_
            refine R.gT rfl rfl ?_
            refine R.pickT rfl ?_
            refine R.gT rfl rfl ?_
            refine R.move ?_
            refine R.gT rfl rfl ?_
            refine R.move ?_
            refine R.gT rfl rfl ?_
            refine R.neq (b := false) rfl rfl (by simp) ?_
            refine R.gT rfl rfl ?_
            refine R.pickT rfl ?_
            refine R.pickF rfl ?_
            refine R.nil ?_
            refine E.condF rfl ?_
            refine E.skip ?_
            exact ⟨hE, hS41, hS51, hB11, rfl, rfl, rfl, rfl, rfl, rfl, trivial⟩
        · replace hc111 := dF hc111
          refine E.skip ?_
          exact ⟨hE, hS41, hS51, hB11, rfl, rfl, rfl, rfl, rfl, rfl, trivial⟩
      · rintro e wr ⟨hE, hS41, hS51, hB11, hH⟩
        obtain ⟨e, rfl⟩ := hH.ex
        clear hH
        refine E.seq ?_
        have hlk : _ ∨ _ := (leastR_kind hb).imp_right (fun h => h.resolve_left (fun h => h.2.2 _ hrs))
        rcases hlk with ⟨h5, hL⟩ | ⟨ls1, hL, hls, hmin⟩
        · refine E.regionP rfl ?_
          refine R.loadA t24 hB11 rfl rfl rfl trivial ?_
          refine R.move ?_
          refine R.callE2 ent40 (yLeastP _ (hm.ext hE) hS41.row hR.l6 hR.x6 (by omega) hL) rfl rfl nofun ?_
          rintro v158 w29 hx29 ⟨u158, rfl, hQ158, hf158⟩
          replace hS41 := hS41.ext hx29
          replace hS51 := hS51.ext hx29
          replace hB11 := hB11.ext hx29
          replace hE := hE.ext hx29
          refine R.move ?_
          refine R.extract rfl rfl ?_
          refine R.extract rfl rfl ?_
          refine R.assign ?_
          refine R.assign ?_
          refine R.nil ?_
          refine E.seq ?_
          refine E.seq ?_
          refine E.regionP rfl ?_
          refine R.move ?_
          refine R.eql (b := true) rfl rfl (decide_eq_true rfl) ?_
          refine R.nil ?_
          refine E.condT rfl ?_
          refine E.seq ?_
          refine E.regionP rfl ?_
          refine R.loadA t24 hB11 rfl rfl rfl trivial ?_
          refine R.callE1 ent29 (roomP _ ⟨_, hm.ext hE⟩ hR.l6 hR.x6 hR.room) rfl nofun ?_
          rintro v165 w30 hx30 rfl
          replace hS41 := hS41.ext hx30
          replace hS51 := hS51.ext hx30
          replace hQ158 := hQ158.ext hx30
          replace hB11 := hB11.ext hx30
          replace hE := hE.ext hx30
          refine R.move ?_
          refine R.extract rfl rfl ?_
          refine R.extract rfl rfl ?_
          refine R.assign ?_
          refine R.assign ?_
          refine R.nil ?_
          refine E.seq ?_
          have hco := hR.count
          have hmu : xss.length * H ≤ 30 * 6 := Nat.mul_le_mul hR.2.2.2.1 hH1
          have h6 : 6 < xss.flatten.length ∨ xss.flatten.length ≤ 6 := Nat.lt_or_ge _ _
          rcases h6 with h6 | h6
          · refine E.regionP rfl ?_
            refine R.fld fa24_0 rfl ?_
            refine R.loadB t22 hB11 rfl rfl rfl trivial ?_
            refine R.len Try.underlying22 hm.row rfl ?_
            refine R.fld fa24_1 rfl ?_
            refine R.loadB t3 hB11 rfl rfl rfl trivial ?_
            refine R.mulN (m := xss.length) (n := H) rfl rfl (by omega) ?_
            refine R.move ?_
            refine R.subN (m := xss.length * H) (n := xss.length * H - xss.flatten.length) rfl rfl (by omega) (by omega) ?_
            refine R.gtr (b := true) rfl rfl (decide_eq_true (by omega)) ?_
            refine R.move ?_
            refine R.gF rfl rfl rfl ?_
            refine R.gF rfl rfl rfl ?_
            refine R.gF rfl rfl rfl ?_
            refine R.gF rfl rfl rfl ?_
            refine R.pickT rfl ?_
            refine R.assign ?_
            refine R.nil ?_
            refine E.ret ?_
            exact ret1 (.bool true) rfl rfl ⟨_, rfl, hE0.ext hE, rfl⟩
          · refine E.regionP rfl ?_
            refine R.fld fa24_0 rfl ?_
            refine R.loadB t22 hB11 rfl rfl rfl trivial ?_
            refine R.len Try.underlying22 hm.row rfl ?_
            refine R.fld fa24_1 rfl ?_
            refine R.loadB t3 hB11 rfl rfl rfl trivial ?_
            refine R.mulN (m := xss.length) (n := H) rfl rfl (by omega) ?_
            refine R.move ?_
            refine R.subN (m := xss.length * H) (n := xss.length * H - xss.flatten.length) rfl rfl (by omega) (by omega) ?_
            refine R.gtr (b := false) rfl rfl (decide_eq_false (by omega)) ?_
            refine R.move ?_
            refine R.gT rfl rfl ?_
            refine R.fld fa24_0 rfl ?_
            refine R.gT rfl rfl ?_
            refine R.loadB t22 hB11 rfl rfl rfl trivial ?_
            refine R.gT rfl rfl ?_
            refine R.len Try.underlying22 hm.row rfl ?_
            refine R.gT rfl rfl ?_
            refine R.gtr (b := true) rfl rfl (decide_eq_true (by omega)) ?_
            refine R.pickF rfl ?_
            refine R.assign ?_
            refine R.nil ?_
            refine E.ret ?_
            exact ret1 (.bool true) rfl rfl ⟨_, rfl, hE0.ext hE, rfl⟩
        · have hgl := hls.goP (Nat.zero_le _) 0
          rw [Nat.zero_add] at hgl
          have hll9 := hls.len
          have hlt := hls.tri (GoodJ.start hb)
          have hlw := hls.way (GoodJ.start hb) Gone.start
          refine E.regionP rfl ?_
          refine R.loadA t24 hB11 rfl rfl rfl trivial ?_
          refine R.move ?_
          refine R.callE2 ent40 (yLeastP _ (hm.ext hE) hS41.row hR.l6 hR.x6 (by omega) hL) rfl rfl nofun ?_
          rintro v158 w31 hx31 ⟨u158, rfl, hQ158, hf158⟩
          replace hS41 := hS41.ext hx31
          replace hS51 := hS51.ext hx31
          replace hB11 := hB11.ext hx31
          replace hE := hE.ext hx31
          refine R.move ?_
          refine R.extract rfl rfl ?_
          refine R.extract rfl rfl ?_
          refine R.assign ?_
          refine R.assign ?_
          refine R.nil ?_
          refine E.seq ?_
          refine E.seq ?_
          refine E.regionP rfl ?_
          refine R.move ?_
          refine R.eql (b := false) rfl rfl (decide_eq_false (by decide)) ?_
          refine R.nil ?_
          refine E.condF rfl ?_
          refine E.skip ?_
          refine E.seq ?_
          refine E.seq ?_
          refine E.regionP rfl ?_
          refine R.move ?_
          refine R.eql (b := false) rfl rfl (decide_eq_false (by decide)) ?_
          refine R.nil ?_
          refine E.condF rfl ?_
          refine E.skip ?_
          refine E.seq ?_
          refine E.regionP rfl ?_
          refine R.loadA t24 hB11 rfl rfl rfl trivial ?_
          refine R.move ?_
          refine R.move ?_
          refine R.callE3 ent41 (playedP _ (hm.ext hE) hS41.row hQ158.row hR (by omega) (by have := leastR_len (xss := xss) (h := (H : Int)) (ord := od); rw [hL] at this; simp only at this; omega) hgl) rfl rfl rfl nofun ?_
          rintro v196 w32 hx32 rfl
          replace hS41 := hS41.ext hx32
          replace hS51 := hS51.ext hx32
          replace hQ158 := hQ158.ext hx32
          replace hB11 := hB11.ext hx32
          replace hE := hE.ext hx32
          refine R.move ?_
          refine R.extract rfl rfl ?_
          refine R.extract rfl rfl ?_
          refine R.assign ?_
          refine R.assign ?_
          refine R.nil ?_
          refine E.seq ?_
          refine E.regionP rfl ?_
          refine R.loadA t24 hB11 rfl rfl rfl trivial ?_
          refine R.move ?_
          refine R.move ?_
          refine R.callE3 ent41 (playedP _ (hm.ext hE) hS41.row hS51.row hR (by omega) (by omega) hgr) rfl rfl rfl nofun ?_
          rintro v203 w33 hx33 rfl
          replace hS41 := hS41.ext hx33
          replace hS51 := hS51.ext hx33
          replace hQ158 := hQ158.ext hx33
          replace hB11 := hB11.ext hx33
          replace hE := hE.ext hx33
          refine R.move ?_
          refine R.extract rfl rfl ?_
          refine R.extract rfl rfl ?_
          refine R.assign ?_
          refine R.assign ?_
          refine R.nil ?_
          refine E.seq ?_
          refine E.regionP rfl ?_
          refine R.move ?_
          refine R.eql (b := true) rfl rfl (decide_eq_true rfl) ?_
          refine R.move ?_
          refine R.gT rfl rfl ?_
          refine R.move ?_
          refine R.pickT rfl ?_
          refine R.move ?_
          refine R.gT rfl rfl ?_
          refine R.move ?_
          refine R.gT rfl rfl ?_
          refine R.move ?_
          refine R.gT rfl rfl ?_
          refine R.geq (b := true) rfl rfl (decide_eq_true (by omega)) ?_
          refine R.pickT rfl ?_
          refine R.move ?_
          refine R.gT rfl rfl ?_
          refine R.move ?_
          refine R.gT rfl rfl ?_
          refine R.neq (b := false) rfl rfl (by simp) ?_
          refine R.gT rfl rfl ?_
          refine R.move ?_
          refine R.gT rfl rfl ?_
          refine R.move ?_
          refine R.gT rfl rfl ?_
          refine R.move ?_
          refine R.gT rfl rfl ?_
          refine R.leq (b := true) rfl rfl (decide_eq_true (by have := least_le hmin hrs; omega)) ?_
          refine R.gT rfl rfl ?_
          refine R.pickF rfl ?_
          refine R.pickT rfl ?_
          refine R.assign ?_
          refine R.nil ?_
          refine E.ret ?_
          exact ret1 (.bool true) rfl rfl ⟨_, rfl, hE0.ext hE, rfl⟩
end Go.Proofs.Ytfdmndkoiheebaa
