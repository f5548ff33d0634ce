import Derived.Test.YtfdmndkoiheebaaZ15H1
import Derived.Scope
namespace Go.Proofs.Ytfdmndkoiheebaa
open Go Go.RowKit
def noG (Q : Exit → Env → World → Prop) : Exit → Env → World → Prop
  | .goto _, _, _ => False
  | x, e, w => Q x e w
theorem E.scope {mm : Bool} {P : Program} {N : Nat} {Q : Exit → Env → World → Prop} {e : Env} {w : World} {c : Code} (h : wpE ⟨none, mm⟩ P N c (noG Q) e w) : wpE ⟨none, mm⟩ P N (.scope c) Q e w := fun a ha => by
  refine wpIn_wide.2 (wp_scope_straight (wpIn_wide.1 (wpIn_mono (h a ha) fun x a' w' ⟨e', r, q⟩ => ?_)))
  cases x
  case goto l => exact q.elim
  all_goals exact ⟨e', r, q⟩
theorem bound0 (w : World) {v vo : Value} {h : Int} {us : List Value} {xss : List (List Int)} {ord : List Int} (hm : Mat w v us xss) (ho : Ints w vo ord) (hl : xss.length < 1000000) (hx : ∀ xs ∈ xss, xs.length < 1000000) (hol : ord.length < 100000) (hb : beginB xss h ord = false) :
    Calls Try.prog 44 #[.agg #[v, .int .i64 h], vo] w (Ret fun r w' => Ext w w' ∧ r = .tuple #[.int .i64 0, .int .i64 2]) := by
  have h := yBound w (h := h) hm ho hl hx (by omega)
  rw [show boundR xss _ ord = (0, 2) by simp [boundR, hb]] at h
  exact h
theorem run0 (w : World) {v vo : Value} {h : Int} {us : List Value} {xss : List (List Int)} {ord : List Int} (hm : Mat w v us xss) (ho : Ints w vo ord) (hl : xss.length < 1000000) (hx : ∀ xs ∈ xss, xs.length < 1000000) (hol : ord.length < 100000) (hb : beginB xss h ord = false) :
    Calls Try.prog 45 #[.agg #[v, .int .i64 h], vo] w (Ret fun r w' => Ext w w' ∧ ∃ u, r = .tuple #[u, .int .i64 2] ∧ Sl w' 68 3 u 0 [] ∧ Fresh w u) := by
  have h := yRun w (h := h) hm ho hl hx hol
  rw [show runR xss _ ord = ([], 2) by simp [runR, hb]] at h
  exact h
theorem check0 (w : World) {v vo vs : Value} {h : Int} {us : List Value} {xss : List (List Int)} {ord : List Int} {ss : List (Int × Int × Int)} (hm : Mat w v us xss) (ho : Ints w vo ord) (hs : Steps w vs ss) (hl : xss.length < 1000000) (hx : ∀ xs ∈ xss, xs.length < 1000000) (hol : ord.length < 100000) (hsl : ss.length < 1000000000) (hb : beginB xss h ord = false) :
    Calls Try.prog 46 #[.agg #[v, .int .i64 h], vo, vs] w (Ret fun r w' => Ext w w' ∧ r = .tuple #[.int .i64 0, .int .i64 2]) := by
  have h := yCheck w (h := h) hm ho hs hl hx (by omega) hsl
  rw [show checkR xss _ ord ss = (0, 2) by simp [checkR, hb]] at h
  exact h
theorem beginB_dup {xss : List (List Int)} {h b : Int} {ord : List Int} (hb : b ∈ ord) : beginB xss h (ord ++ [b]) = false := by
  simp only [beginB, Bool.and_eq_false_iff, decide_eq_false_iff_not]
  refine .inr fun hO => ?_
  have := hO.1
  rw [List.nodup_append] at this
  exact this.2.2 b hb b (by simp) rfl
theorem beginB_out {xss : List (List Int)} {h b : Int} (hb : b ∉ xss.flatten) : beginB xss h [b] = false := by
  simp only [beginB, Bool.and_eq_false_iff, decide_eq_false_iff_not]
  exact .inr fun hO => hb (hO.2 b (by simp))
theorem beginB_zero {xss : List (List Int)} {ord : List Int} : beginB xss 0 ord = false := by
  simp only [beginB, Bool.and_eq_false_iff]
  exact .inl (rightB_false.2 fun hR => by have := hR.1; omega)
theorem least0 (w : World) {v vo : Value} {h : Int} {us : List Value} {xss : List (List Int)} {ord : List Int} (hm : Mat w v us xss) (ho : Ints w vo ord) (hl : xss.length < 1000000) (hx : ∀ xs ∈ xss, xs.length < 1000000) (hol : ord.length < 100000) (hb : beginB xss h ord = false) :
    Calls Try.prog 40 #[.agg #[v, .int .i64 h], vo] w (Ret fun r w' => Ext w w' ∧ r = .tuple #[.slice none 0 0, .int .i64 2]) := by
  refine calls_E (args := [.agg #[v, .int .i64 h], vo]) 66 Try.func40 rfl rfl (by simp) ?_
  have hE : Ext w w := Upd.refl w
  refine E.seq ?_
  refine E.regionP rfl ?_
  refine R.box rfl nofun ?_
  intro b2 w1 hb2 hx1 hB2
  replace hb2 := Nat.le_trans hE.size hb2
  replace hE := hE.ext hx1
  replace hB2 : Blk _ b2 24 #[v, .int .i64 h] := hB2
  refine R.box rfl nofun ?_
  intro b3 w3 hb3 hx3 hB3
  replace hb3 := Nat.le_trans hE.size hb3
  replace hB2 := hB2.ext hx3
  replace hE := hE.ext hx3
  replace hB3 : Blk w3 b3 35 #[vo] := by have e : vo.cells = #[vo] := cells_one ho.one; rw [← e]; exact hB3
  refine R.assign ?_
  refine R.assign ?_
  refine R.nil ?_
  refine E.scope ?_
  refine E.seq ?_
  refine E.regionP rfl ?_
  refine R.loadA t24 hB2 rfl rfl rfl trivial ?_
  refine R.loadB t35 hB3 rfl rfl rfl trivial ?_
  refine R.callE2 ent73 (begin0 _ (hm.ext hE) (ho.ext hE) hl hx (by omega) hb) rfl rfl nofun ?_
  rintro v16 w2 hx2 rfl
  replace hB2 := hB2.ext hx2
  replace hB3 := hB3.ext hx2
  replace hE := hE.ext hx2
  refine R.move ?_
  refine R.extract rfl rfl ?_
  refine R.extract rfl rfl ?_
  refine R.alloc t104 nofun ?_
  intro b6 w3 hb6 hx3 hB6
  replace hb6 := Nat.le_trans hE.size hb6
  replace hB2 := hB2.ext hx3
  replace hB3 := hB3.ext hx3
  replace hE := hE.ext hx3
  replace hB6 : Blk _ b6 104 #[.pointer none] := hB6
  refine R.store t104 hB6 rfl rfl (rfl) (by simp) nofun ?_
  intro w4 hU4 hs4 hN4
  replace hB2 := hB2.upT hU4 hB6 (by decide)
  replace hB3 := hB3.upT hU4 hB6 (by decide)
  replace hE := hE.own hU4 hb6
  replace hB6 : Blk _ b6 104 #[.pointer none] := hN4
  clear hN4
  refine R.assign ?_
  refine R.nil ?_
  refine E.seq ?_
  refine E.seq ?_
  refine E.regionP rfl ?_
  refine R.move ?_
  refine R.not rfl ?_
  refine R.nil ?_
  refine E.condT rfl ?_
  refine E.seq ?_
  refine E.regionP rfl ?_
  refine R.assign ?_
  refine R.assign ?_
  refine R.nil ?_
  refine E.ret ?_
  exact ret2 (.slice none 0 0) (.int .i64 2) rfl rfl rfl ⟨_, rfl, hE, rfl⟩
set_option maxHeartbeats 3200000 in
theorem retrieveWrong (w : World) {vl vos : Value} {st ht : Nat} {bx : Int} {ls os : List Nat} (hl : U8s w vl ls) (hll : ls.length ≤ 9223372036854775807) (hls : ∀ x ∈ ls, x < 256) (ho : U8s w vos os) (hol : os.length ≤ 9223372036854775807) (hos : ∀ x ∈ os, x < 256) :
    Calls Try.prog 15 #[.int .u8 st, .int .u8 ht, vl, vos, .int .i64 bx] w (Ret fun r w' => Ext w w' ∧ r = .bool true) := by
  have hn1 : 1 + st % 6 ≤ 6 := by omega
  have hH1 : 1 + ht % 6 ≤ 6 := by omega
  obtain ⟨H, hHd⟩ : ∃ H, 1 + ht % 6 = H := ⟨_, rfl⟩
  obtain ⟨n0, hnd⟩ : ∃ n, 1 + st % 6 = n := ⟨_, rfl⟩
  rw [hHd] at hH1
  rw [hnd] at hn1
  refine calls_E (args := [.int .u8 st, .int .u8 ht, vl, vos, .int .i64 bx]) 98 Try.func15 rfl rfl (by simp) ?_
  have hE : Ext w w := Upd.refl w
  refine E.seq ?_
  refine E.regionP rfl ?_
  refine R.assign ?_
  refine R.nil ?_
  refine E.seq ?_
  refine E.seq ?_
  refine E.regionP rfl ?_
  refine R.callE0 ent38 (awake35 _)  nofun ?_
  rintro v23 w1 hx1 rfl
  replace hE := hE.ext hx1
  refine R.not rfl ?_
  refine R.nil ?_
  refine E.condF rfl ?_
  refine E.skip ?_
  refine E.seq ?_
  refine E.regionP rfl ?_
  refine R.move ?_
  refine R.move ?_
  refine R.move ?_
  refine R.callE3 ent22 (madeE _ (hl.ext hE) hll hls hnd hHd) rfl rfl rfl nofun ?_
  rintro v28 w2 hx2 ⟨u28, us28, xss, rfl, hM28, hP28⟩
  replace hE := hE.ext hx2
  have hE0 := hE
  clear hE
  obtain ⟨wb, hwb⟩ : ∃ x, x = w2 := ⟨_, rfl⟩
  subst hwb
  have hE : Ext wb wb := Upd.refl _
  have hm := hM28.mat
  have hR : RightP xss (H : Int) := hP28.right (by omega) (by omega) (by omega) (by omega) (by omega)
  have hRb := hR.b
  have hlen := hP28.len
  replace ho := ho.ext hE0
  refine R.alloc t24 nofun ?_
  intro b11 w3 hb11 hx3 hB11
  replace hb11 := Nat.le_trans hE.size hb11
  replace hE := hE.ext hx3
  replace hB11 : Blk _ b11 24 #[.slice none 0 0, .int .i64 0] := hB11
  refine R.storeA t24 hB11 rfl rfl rfl rfl (ones2 hm.row.one rfl) nofun ?_
  intro w4 hU4 hs4 hN4
  replace hE := hE.own hU4 hb11
  replace hB11 : Blk _ b11 24 #[u28, .int .i64 H] := hN4
  clear hN4
  refine R.nil ?_
  refine E.seq ?_
  refine E.regionP rfl ?_
  refine R.loadA t24 hB11 rfl rfl rfl trivial ?_
  refine R.move ?_
  refine R.callE3 ent39 (ordered _ (m := 20) (hm.ext hE) (ho.ext hE) hol hos hR.2.2.2.1 (sum_lengths hR) (by omega)) rfl rfl rfl nofun ?_
  rintro v31 w5 hx5 ⟨hS31, hf31⟩
  replace hf31 := hf31.mono hE.size
  replace hB11 := hB11.ext hx5
  replace hE := hE.ext hx5
  obtain ⟨hOP, hOl⟩ := ordL_right (ls := os) (m := 20) hR
  generalize ordL xss os 20 = od at *
  refine R.assign ?_
  refine R.nil ?_
  refine E.seq ?_
  refine E.seq ?_
  refine E.regionP rfl ?_
  refine R.move ?_
  refine R.len Try.underlying35 hS31.row rfl ?_
  refine R.gtr rfl rfl rfl ?_
  refine R.nil ?_
  refine E.cutM (fun e wr => ∃ (ov : Value) (od1 : List Int), Ext wb wr ∧ SInts wr ov od1 ∧ od1.length ≤ 21 ∧ beginB xss (H : Int) od1 = false ∧ Blk wr b11 24 #[u28, .int .i64 H] ∧ Has e [(11, .pointer (some ⟨b11, 0, none⟩)), (12, ov)]) ?_ ?_
  · refine E.cond rfl (fun hc34 => ?_) (fun hc34 => ?_)
    · replace hc34 := dT hc34
      have hod : 0 < od.length := by omega
      obtain ⟨p, hp⟩ : ∃ p : Nat, pickL bx od.length = p := ⟨(pickL bx od.length).toNat, by have := (pickL_range (a := bx) (n := od.length) (by omega)).1; omega⟩
      have hpl : p < od.length := by have := (pickL_range (a := bx) (n := od.length) (by omega)).2; omega
      refine E.regionP rfl ?_
      refine R.move ?_
      refine R.move ?_
      refine R.move ?_
      refine R.move ?_
      refine R.len Try.underlying35 hS31.row rfl ?_
      refine R.callE2 ent21 (pick _ (by omega)) rfl rfl nofun ?_
      rintro v40 w6 hx6 rfl
      rw [hp]
      replace hS31 := hS31.ext hx6
      replace hB11 := hB11.ext hx6
      replace hE := hE.ext hx6
      refine R.ix (m := p) Try.underlying35 t3 (by decide) hS31.row rfl rfl hpl ?_
      refine R.ld (j := p) t3 hS31.row rfl (int_at hpl) rfl (fun _ _ => trivial) ?_
      refine R.buildSlice [.int .i64 od[p]] Try.underlying35 t3 rfl rfl (by simp [Value.cells]) (by simp) nofun ?_
      intro b43 w7 hb43 hx7 hB43 hS43
      replace hb43 := Nat.le_trans hE.size hb43
      replace hS31 := hS31.ext hx7
      replace hB11 := hB11.ext hx7
      replace hE := hE.ext hx7
      refine R.append (m := 1) Try.underlying35 Try.underlying35 t3 (by decide) rfl hS31 hS43.row (by simp [cellsOf, Value.cells, Value.oneCell']) rfl rfl (by omega) (by omega) nofun ?_
      intro v44 w44 hU44 hS44 hd44
      replace hB11 := hB11.upS hU44 hS31 (by decide)
      replace hE := hE.app hU44 hf31
      have hO : SInts w44 v44 (od ++ [od[p]]) := SInts.app (ys := [od[p]]) (m := 1) (by simpa [cellsOf, Value.cells, ints] using hS44) rfl
      refine R.assign ?_
      refine R.nil ?_
      exact ⟨v44, _, hE, hO, by simp; omega, beginB_dup (List.getElem_mem hpl), hB11, rfl, rfl, trivial⟩
    · replace hc34 := dF hc34
      have hp2 := pickL_range (a := bx) (n := 9) (by omega)
      have hnb : (500 + pickL bx 9) ∉ xss.flatten := fun h => by have := (hP28.box _ h).2; omega
      refine E.regionP rfl ?_
      refine R.move ?_
      refine R.callE2 ent21 (pick _ (by omega)) rfl rfl nofun ?_
      rintro v46 w8 hx8 rfl
      replace hS31 := hS31.ext hx8
      replace hB11 := hB11.ext hx8
      replace hE := hE.ext hx8
      refine R.add rfl rfl (by omega) (by omega) ?_
      refine R.buildSlice [.int .i64 (500 + pickL bx 9)] Try.underlying35 t3 rfl rfl (by simp [Value.cells]) (by simp) nofun ?_
      intro b48 w9 hb48 hx9 hB48 hS48
      replace hb48 := Nat.le_trans hE.size hb48
      replace hS31 := hS31.ext hx9
      replace hB11 := hB11.ext hx9
      replace hE := hE.ext hx9
      refine R.assign ?_
      refine R.nil ?_
      exact ⟨.slice (some ⟨b48, 0, none⟩) 1 1, [500 + pickL bx 9], hE, by simpa [SInts, cellsOf, Value.cells, ints] using hS48, by simp, beginB_out hnb, hB11, rfl, rfl, trivial⟩
  · rintro e wr ⟨ov, od1, hE, hO, hol1, hbb, hB11, hH⟩
    obtain ⟨e, rfl⟩ := hH.ex
    clear hH
    refine E.seq ?_
    refine E.seq ?_
    refine E.regionP rfl ?_
    refine R.loadA t24 hB11 rfl rfl rfl trivial ?_
    refine R.fld fa24_0 rfl ?_
    refine R.loadB t22 hB11 rfl rfl rfl trivial ?_
    refine R.build (build24 hm.row.one rfl) rfl ?_
    refine R.buildSlice [.agg #[u28, .int .i64 H], .agg #[u28, .int .i64 0]] Try.underlying76 t24 rfl rfl (by simp [Value.cells]) (by simp) nofun ?_
    intro b53 w10 hb53 hx10 hB53 hS53
    replace hb53 := Nat.le_trans hE.size hb53
    replace hO := hO.ext hx10
    replace hB11 := hB11.ext hx10
    replace hE := hE.ext hx10
    refine R.lenV Try.underlying76 rfl ?_
    refine R.move ?_
    refine R.nil ?_
    refine E.block ?_
    refine E.loop (fun n e wr => ∃ (i : Nat) (ov : Value) (od1 : List Int), n = 2 - i ∧ i ≤ 2 ∧ Ext wb wr ∧ SInts wr ov od1 ∧ od1.length ≤ 21 ∧ beginB xss (if i = 0 then (H : Int) else 0) od1 = false ∧ Sl wr 24 2 (.slice (some ⟨b53, 0, none⟩) 2 2) 2 [u28, .int .i64 H, u28, .int .i64 0] ∧ Has e [(12, ov), (53, .slice (some ⟨b53, 0, none⟩) 2 2), (54, .int .i64 2), (55, .int .i64 (i : Nat))]) (2) ?_ ?_
    · exact ⟨0, ov, od1, rfl, by omega, hE, hO, hol1, by simpa using hbb, by simpa [cellsOf, Value.cells, cells_one hm.row.one] using hS53, rfl, rfl, rfl, rfl, trivial⟩
    · rintro n e wr ⟨i, ov, od1, rfl, hi, hE, hO, hol1, hbb, hY, hH⟩
      obtain ⟨e, rfl⟩ := hH.ex
      clear hH
      refine E.seq ?_
      refine E.regionP rfl ?_
      refine R.lss rfl rfl rfl ?_
      refine R.nil ?_
      refine E.seq ?_
      refine E.cond rfl (fun hc56 => ?_) (fun hc56 => ?_)
      · replace hc56 := dT hc56
        refine E.skip ?_
        refine E.seq ?_
        refine E.block ?_
        refine E.seq ?_
        rcases (show i = 0 ∨ i = 1 by omega) with rfl | rfl
        · have hb : beginB xss (H : Int) od1 = false := by simpa using hbb
          refine E.regionP rfl ?_
          refine R.ix (m := 0) Try.underlying76 t24 (by decide) hY.row rfl rfl (by decide) ?_
          refine R.loadE (j := 0 * 2) (us := [u28, .int .i64 H]) t24 (by decide) hY.row rfl rfl rfl rfl (fun _ _ => trivial) ?_
          refine R.alloc t24 nofun ?_
          intro b14 w13 hb14 hx13 hB14
          have hn14 : b53 ≠ b14 := by have := hY.blk_lt (b := b53) rfl; omega
          replace hb14 := Nat.le_trans hE.size hb14
          replace hO := hO.ext hx13
          replace hY := hY.ext hx13
          replace hE := hE.ext hx13
          replace hB14 : Blk _ b14 24 #[.slice none 0 0, .int .i64 0] := hB14
          refine R.storeA t24 hB14 rfl rfl rfl rfl (ones2 hm.row.one rfl) nofun ?_
          intro w14 hU14 hs14 hN14
          replace hO := hO.upT hU14 hB14 (by decide)
          replace hY := hY.up hU14 (fun b e h => hn14 (by have e1 : some b53 = some b := e; have e2 : b = b14 := h; simp at e1; omega))
          replace hE := hE.own hU14 hb14
          replace hB14 : Blk _ b14 24 #[u28, .int .i64 H] := hN14
          refine R.nil ?_
          refine E.seq ?_
          refine E.regionP rfl ?_
          refine R.loadA t24 hB14 rfl rfl rfl trivial ?_
          refine R.move ?_
          refine R.callE2 ent44 (bound0 _ (hm.ext hE) hO.row hR.l6 hR.x6 (by omega) hb) rfl rfl nofun ?_
          rintro v62 w11 hx11 rfl
          replace hO := hO.ext hx11
          replace hY := hY.ext hx11
          replace hB14 := hB14.ext hx11
          replace hE := hE.ext hx11
          refine R.move ?_
          refine R.extract rfl rfl ?_
          refine R.extract rfl rfl ?_
          refine R.assign ?_
          refine R.assign ?_
          refine R.nil ?_
          refine E.seq ?_
          refine E.regionP rfl ?_
          refine R.loadA t24 hB14 rfl rfl rfl trivial ?_
          refine R.move ?_
          refine R.callE2 ent45 (run0 _ (hm.ext hE) hO.row hR.l6 hR.x6 (by omega) hb) rfl rfl nofun ?_
          rintro v68 w12 hx12 ⟨u68, rfl, hS68, hf68⟩
          replace hO := hO.ext hx12
          replace hY := hY.ext hx12
          replace hB14 := hB14.ext hx12
          replace hE := hE.ext hx12
          refine R.move ?_
          refine R.extract rfl rfl ?_
          refine R.extract rfl rfl ?_
          refine R.assign ?_
          refine R.assign ?_
          refine R.nil ?_
          refine E.seq ?_
          refine E.regionP rfl ?_
          refine R.loadA t24 hB14 rfl rfl rfl trivial ?_
          refine R.move ?_
          refine R.callE2 ent40 (least0 _ (hm.ext hE) hO.row hR.l6 hR.x6 (by omega) hb) rfl rfl nofun ?_
          rintro v74 w13 hx13 rfl
          replace hO := hO.ext hx13
          replace hY := hY.ext hx13
          replace hB14 := hB14.ext hx13
          replace hE := hE.ext hx13
          refine R.move ?_
          refine R.extract rfl rfl ?_
          refine R.extract rfl rfl ?_
          refine R.assign ?_
          refine R.assign ?_
          refine R.nil ?_
          refine E.seq ?_
          refine E.regionP rfl ?_
          refine R.loadA t24 hB14 rfl rfl rfl trivial ?_
          refine R.move ?_
          refine R.callE3 ent46 (check0 _ (ss := []) (hm.ext hE) hO.row (Row.nil _ _) hR.l6 hR.x6 (by omega) (by simp) hb) rfl rfl rfl nofun ?_
          rintro v80 w14 hx14 rfl
          replace hO := hO.ext hx14
          replace hY := hY.ext hx14
          replace hB14 := hB14.ext hx14
          replace hE := hE.ext hx14
          refine R.move ?_
          refine R.extract rfl rfl ?_
          refine R.extract rfl rfl ?_
          refine R.assign ?_
          refine R.assign ?_
          refine R.nil ?_
          refine E.seq ?_
          refine E.seq ?_
          refine E.regionP rfl ?_
          refine R.move ?_
          refine R.neq (b := false) rfl rfl (by decide) ?_
          refine R.move ?_
          refine R.gT rfl rfl ?_
          refine R.move ?_
          refine R.gT rfl rfl ?_
          refine R.neq (b := false) rfl rfl (by decide) ?_
          refine R.pickF rfl ?_
          refine R.move ?_
          refine R.gT rfl rfl ?_
          refine R.move ?_
          refine R.gT rfl rfl ?_
          refine R.neq (b := false) rfl rfl (by decide) ?_
          refine R.pickF rfl ?_
          refine R.move ?_
          refine R.gT rfl rfl ?_
          refine R.move ?_
          refine R.gT rfl rfl ?_
          refine R.neq (b := false) rfl rfl (by decide) ?_
          refine R.pickF rfl ?_
          refine R.nil ?_
          refine E.condF rfl ?_
          refine E.skip ?_
          refine E.regionP rfl ?_
          refine R.assign ?_
          refine R.nil ?_
          refine E.regionP rfl ?_
          refine R.addN (n := 1) rfl rfl (by omega) ?_
          refine R.move ?_
          refine R.nil ?_
          exact ⟨1, by omega, 1, _, [], rfl, by omega, hE, SInts.nil _, by simp, by simpa using beginB_zero, hY, rfl, rfl, rfl, rfl, trivial⟩
        · have hb : beginB xss 0 od1 = false := beginB_zero
          refine E.regionP rfl ?_
          refine R.ix (m := 1) Try.underlying76 t24 (by decide) hY.row rfl rfl (by decide) ?_
          refine R.loadE (j := 1 * 2) (us := [u28, .int .i64 0]) t24 (by decide) hY.row rfl rfl rfl rfl (fun _ _ => trivial) ?_
          refine R.alloc t24 nofun ?_
          intro b14 w13 hb14 hx13 hB14
          have hn14 : b53 ≠ b14 := by have := hY.blk_lt (b := b53) rfl; omega
          replace hb14 := Nat.le_trans hE.size hb14
          replace hO := hO.ext hx13
          replace hY := hY.ext hx13
          replace hE := hE.ext hx13
          replace hB14 : Blk _ b14 24 #[.slice none 0 0, .int .i64 0] := hB14
          refine R.storeA t24 hB14 rfl rfl rfl rfl (ones2 hm.row.one rfl) nofun ?_
          intro w14 hU14 hs14 hN14
          replace hO := hO.upT hU14 hB14 (by decide)
          replace hY := hY.up hU14 (fun b e h => hn14 (by have e1 : some b53 = some b := e; have e2 : b = b14 := h; simp at e1; omega))
          replace hE := hE.own hU14 hb14
          replace hB14 : Blk _ b14 24 #[u28, .int .i64 0] := hN14
          refine R.nil ?_
          refine E.seq ?_
          refine E.regionP rfl ?_
          refine R.loadA t24 hB14 rfl rfl rfl trivial ?_
          refine R.move ?_
          refine R.callE2 ent44 (bound0 _ (hm.ext hE) hO.row hR.l6 hR.x6 (by omega) hb) rfl rfl nofun ?_
          rintro v62 w15 hx15 rfl
          replace hO := hO.ext hx15
          replace hY := hY.ext hx15
          replace hB14 := hB14.ext hx15
          replace hE := hE.ext hx15
          refine R.move ?_
          refine R.extract rfl rfl ?_
          refine R.extract rfl rfl ?_
          refine R.assign ?_
          refine R.assign ?_
          refine R.nil ?_
          refine E.seq ?_
          refine E.regionP rfl ?_
          refine R.loadA t24 hB14 rfl rfl rfl trivial ?_
          refine R.move ?_
          refine R.callE2 ent45 (run0 _ (hm.ext hE) hO.row hR.l6 hR.x6 (by omega) hb) rfl rfl nofun ?_
          rintro v68 w16 hx16 ⟨u68, rfl, hS68, hf68⟩
          replace hO := hO.ext hx16
          replace hY := hY.ext hx16
          replace hB14 := hB14.ext hx16
          replace hE := hE.ext hx16
          refine R.move ?_
          refine R.extract rfl rfl ?_
          refine R.extract rfl rfl ?_
          refine R.assign ?_
          refine R.assign ?_
          refine R.nil ?_
          refine E.seq ?_
          refine E.regionP rfl ?_
          refine R.loadA t24 hB14 rfl rfl rfl trivial ?_
          refine R.move ?_
          refine R.callE2 ent40 (least0 _ (hm.ext hE) hO.row hR.l6 hR.x6 (by omega) hb) rfl rfl nofun ?_
          rintro v74 w17 hx17 rfl
          replace hO := hO.ext hx17
          replace hY := hY.ext hx17
          replace hB14 := hB14.ext hx17
          replace hE := hE.ext hx17
          refine R.move ?_
          refine R.extract rfl rfl ?_
          refine R.extract rfl rfl ?_
          refine R.assign ?_
          refine R.assign ?_
          refine R.nil ?_
          refine E.seq ?_
          refine E.regionP rfl ?_
          refine R.loadA t24 hB14 rfl rfl rfl trivial ?_
          refine R.move ?_
          refine R.callE3 ent46 (check0 _ (ss := []) (hm.ext hE) hO.row (Row.nil _ _) hR.l6 hR.x6 (by omega) (by simp) hb) rfl rfl rfl nofun ?_
          rintro v80 w18 hx18 rfl
          replace hO := hO.ext hx18
          replace hY := hY.ext hx18
          replace hB14 := hB14.ext hx18
          replace hE := hE.ext hx18
          refine R.move ?_
          refine R.extract rfl rfl ?_
          refine R.extract rfl rfl ?_
          refine R.assign ?_
          refine R.assign ?_
          refine R.nil ?_
          refine E.seq ?_
          refine E.seq ?_
          refine E.regionP rfl ?_
          refine R.move ?_
          refine R.neq (b := false) rfl rfl (by decide) ?_
          refine R.move ?_
          refine R.gT rfl rfl ?_
          refine R.move ?_
          refine R.gT rfl rfl ?_
          refine R.neq (b := false) rfl rfl (by decide) ?_
          refine R.pickF rfl ?_
          refine R.move ?_
          refine R.gT rfl rfl ?_
          refine R.move ?_
          refine R.gT rfl rfl ?_
          refine R.neq (b := false) rfl rfl (by decide) ?_
          refine R.pickF rfl ?_
          refine R.move ?_
          refine R.gT rfl rfl ?_
          refine R.move ?_
          refine R.gT rfl rfl ?_
          refine R.neq (b := false) rfl rfl (by decide) ?_
          refine R.pickF rfl ?_
          refine R.nil ?_
          refine E.condF rfl ?_
          refine E.skip ?_
          refine E.regionP rfl ?_
          refine R.assign ?_
          refine R.nil ?_
          refine E.regionP rfl ?_
          refine R.addN (n := 1) rfl rfl (by omega) ?_
          refine R.move ?_
          refine R.nil ?_
          exact ⟨0, by omega, 2, _, [], rfl, by omega, hE, SInts.nil _, by simp, by simpa using beginB_zero, hY, rfl, rfl, rfl, rfl, trivial⟩
      · replace hc56 := dF hc56
        refine E.exit ?_
        refine E.seq ?_
        refine E.regionP rfl ?_
        refine R.assign ?_
        refine R.nil ?_
        refine E.ret ?_
        exact ret1 (.bool true) rfl rfl ⟨_, rfl, hE0.ext hE, rfl⟩
end Go.Proofs.Ytfdmndkoiheebaa
