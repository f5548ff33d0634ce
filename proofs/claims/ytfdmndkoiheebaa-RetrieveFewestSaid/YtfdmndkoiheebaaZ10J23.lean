import Derived.Test.YtfdmndkoiheebaaZ10J22
namespace Go.Proofs.Ytfdmndkoiheebaa
open Go Go.RowKit
theorem stepsC_at0 {ss : List (Int × Int × Int)} {i : Nat} (h : i < ss.length) : (stepsC ss)[i * 3 + 0]? = some (.int .i64 ss[i].1) := by
  have h1 := congrArg (fun l => l[0]?) (steps_take h)
  simpa [List.getElem?_take, List.getElem?_drop] using h1
theorem stepsC_at1 {ss : List (Int × Int × Int)} {i : Nat} (h : i < ss.length) : (stepsC ss)[i * 3 + 1]? = some (.int .i64 ss[i].2.1) := by
  have h1 := congrArg (fun l => l[1]?) (steps_take h)
  simpa [List.getElem?_take, List.getElem?_drop] using h1
theorem R.ldStep {P : Program} {ops : Array Oper} {S : Bool → Nat → Prop} {dr : Bool} {B : List Nat} {F : Env → World → Prop} {rest : List Oper} {e : Env} {w w0 : World} {d : Tmp} {ty : TypeId} {pos : String} {aft : Array Edge} {x : Operand} {t : TypeId} {c : Bool} {by_ i k : Nat} {z v u : Value} {ss : List (Int × Int × Int)} (hk : Ty P t 1 by_ false z) (hr : Steps w0 v ss) (hE : Ext w0 w) (hi : i < ss.length) (hu : (stepsC ss)[i * 3 + k]? = some u) (hx : ev e x = elemPtr v (i * 3 + k)) (hc : B.contains d = c) (hS : ∀ b, b < w0.heap.size → S c b)
    (h : wpR P ops S dr (kind B) F rest (upd e d u) w) : wpR P ops S dr (kind B) F (⟨some d, .load t x, ty, pos, aft, none⟩ :: rest) e w :=
  R.load (j := i * 3 + k) hk (hr.ext hE) hx hu hc (fun b hb => hS b (hr.blk_at (j := i * 3) (by rw [stepsC_len]; omega) b hb)) h
def YK (w wr : World) (v : Value) (h : Int) (xss : List (List Int)) : Prop := (∃ us, Mat w v us xss) ∨ YO w wr v h xss
section
variable {w wr w' : World} {v : Value} {h : Int} {xss : List (List Int)}
theorem YK.ext (y : YK w wr v h xss) (u : Ext wr w') : YK w w' v h xss := by
  rcases y with y | y
  · exact .inl y
  · exact .inr (y.ext u)
theorem YK.upT {b : Nat} {cs : Array Value} {ty : TypeId} (y : YK w wr v h xss) (u : Upd (Ytfdmndkoiheebaa.one b) wr w') (hb : Blk wr b ty cs) (hne : 35 ≠ ty ∧ 3 ≠ ty) : YK w w' v h xss := by
  rcases y with y | y
  · exact .inl y
  · exact .inr (y.upT u hb hne)
theorem YK.mat (y : YK w wr v h xss) (hE : Ext w wr) : ∃ us, Mat wr v us xss := by
  rcases y with ⟨us, y⟩ | y
  · exact ⟨us, y.ext hE⟩
  · exact y.mat
end
def goP (H : Nat) (ord : List Int) : List (List Int) → Nat → List (Int × Int × Int) → Nat → Nat × Bool
  | _, nx, [], c => (c, decide (nx = ord.length))
  | xss, nx, s :: ss, c => match doL xss H ord nx s with
    | none => (0, false)
    | some (ys, n') => goP H ord ys n' ss (if 0 ≤ s.2.2 then c + 1 else c)
section
variable {H : Nat} {ord : List Int} {xss ys : List (List Int)} {nx n' c i : Nat} {ss : List (Int × Int × Int)}
theorem goP_none (hi : i < ss.length) (h : doL xss H ord nx ss[i] = none) : goP H ord xss nx (ss.drop i) c = (0, false) := by
  rw [List.drop_eq_getElem_cons hi]; simp only [goP, h]
theorem goP_some (hi : i < ss.length) (h : doL xss H ord nx ss[i] = some (ys, n')) : goP H ord xss nx (ss.drop i) c = goP H ord ys n' (ss.drop (i + 1)) (if 0 ≤ ss[i].2.2 then c + 1 else c) := by
  rw [List.drop_eq_getElem_cons hi]; simp only [goP, h]
theorem goP_end (hi : i = ss.length) : goP H ord xss nx (ss.drop i) c = (c, decide (nx = ord.length)) := by
  rw [hi, List.drop_length]; rfl
theorem findL_nth {b : Int} {a k : Nat} (h : findL xss b = some (a, k)) : ∃ (ha : a < xss.length) (hk : k < xss[a].length), xss[a][k] = b := by
  obtain ⟨hi, hk, hb, _⟩ := findL_some h
  exact ⟨hi, hk, hb⟩
theorem doL_nobox {s : Int × Int × Int} (h : findL xss s.1 = none) : doL xss H ord nx s = none := by
  obtain ⟨b, f, t⟩ := s
  simp only [doL]
  by_cases hb : b < 1
  · rw [if_pos (.inl hb)]
  · refine if_pos (.inr fun e => ?_)
    obtain ⟨a, ha, hl, _, he⟩ := topL_pos e (by omega)
    exact findL_none h (List.mem_flatten.2 ⟨_, List.getElem_mem ha, by rw [← he]; exact List.getElem_mem _⟩)
theorem doL_where {s : Int × Int × Int} {a k : Nat} (hR : RightP xss (H : Int)) (h : findL xss s.1 = some (a, k)) (hf : ¬ ((a : Int) = s.2.1 ∧ k + 1 = (xss.getD a []).length)) : doL xss H ord nx s = none := by
  obtain ⟨b, f, t⟩ := s
  simp only [doL]
  by_cases hb : b < 1
  · rw [if_pos (.inl hb)]
  · refine if_pos (.inr fun e => hf ?_)
    obtain ⟨a', ha', hl', rfl, he⟩ := topL_pos e (by omega)
    obtain ⟨ha, hk, hbk⟩ := findL_nth h
    obtain ⟨rfl, rfl⟩ := hR.inj ha hk ha' (show xss[a'].length - 1 < xss[a'].length by omega) (by rw [hbk, he])
    refine ⟨rfl, ?_⟩
    rw [show xss.getD a [] = xss[a] by simp [ha]]; omega
theorem takeR_no {b : Int} {a k : Nat} (hR : RightP xss (H : Int)) (h : findL xss b = some (a, k)) (hk : k + 1 < (xss.getD a []).length) : takeR xss H b = ([], 0, 342) := by
  simp only [takeR, hR.b, h]
  simp only [Bool.true_eq_false, if_false]
  rw [if_pos hk]
end
theorem findP (w : World) {v : Value} {h b : Int} {xss : List (List Int)} (hm : ∃ us, Mat w v us xss) (hl : xss.length < 1000000) (hx : ∀ xs ∈ xss, xs.length < 1000000) (hF : findL xss b = none) :
    Calls Try.prog 23 #[.agg #[v, .int .i64 h], .int .i64 b] w (Ret fun r w' => Ext w w' ∧ r = .tuple #[.int .i64 0, .int .i64 0, .bool false]) := findE w hm hl hx (by simp only [findV, hF])
theorem findQ (w : World) {v : Value} {h b : Int} {a k : Nat} {xss : List (List Int)} (hm : ∃ us, Mat w v us xss) (hl : xss.length < 1000000) (hx : ∀ xs ∈ xss, xs.length < 1000000) (hF : findL xss b = some (a, k)) :
    Calls Try.prog 23 #[.agg #[v, .int .i64 h], .int .i64 b] w (Ret fun r w' => Ext w w' ∧ r = .tuple #[.int .i64 (a : Nat), .int .i64 (k : Nat), .bool true]) := findE w hm hl hx (by simp only [findV, hF])
theorem doL_order {xss : List (List Int)} {H nx : Nat} {ord : List Int} {s : Int × Int × Int} (h : ord.getD nx 0 ≠ s.1) (ht : s.2.2 = -1) : doL xss H ord nx s = none := by
  unfold doL
  by_cases hc : s.1 < 1 ∨ topL xss s.2.1 ≠ s.1
  · rw [if_pos hc]
  · rw [if_neg hc, if_pos ht, if_pos (.inr h)]
theorem doL_last {xss : List (List Int)} {H nx : Nat} {ord : List Int} {s : Int × Int × Int} (h : nx = ord.length) (ht : s.2.2 = -1) : doL xss H ord nx s = none := by
  unfold doL
  by_cases hc : s.1 < 1 ∨ topL xss s.2.1 ≠ s.1
  · rw [if_pos hc]
  · rw [if_neg hc, if_pos ht, if_pos (.inl h)]
set_option maxHeartbeats 400000 in
theorem played_ (w : World) {v vo vss : Value} {H : Nat} {us : List Value} {xss : List (List Int)} {ord : List Int} {ss : List (Int × Int × Int)} (hm : Mat w v us xss) (ho : Ints w vo ord) (hss : Steps w vss ss) (hRP : RightP xss (H : Int)) (hol : ord.length < 1000000) (hsl : ss.length < 1000000000) :
    Calls Try.prog 41 #[.agg #[v, .int .i64 H], vo, vss] w (Ret fun r w' => Ext w w' ∧ r = .tuple #[.int .i64 ((goP H ord xss 0 ss 0).1 : Nat), .bool (goP H ord xss 0 ss 0).2]) := by
  refine calls_E (args := [.agg #[v, .int .i64 H], vo, vss]) 121 Try.func41 rfl rfl (by simp) ?_
  have hE : Ext w w := Upd.refl w
  refine E.seq ?_
  refine E.regionP rfl ?_
  refine R.box rfl nofun ?_
  intro b3 w1 hb3 hx1 hB3
  replace hb3 := Nat.le_trans hE.size hb3
  replace hE := hE.ext hx1
  replace hB3 : Blk _ b3 24 #[v, .int .i64 H] := hB3
  refine R.assign ?_
  refine R.assign ?_
  refine R.nil ?_
  refine E.seq ?_
  refine E.regionP rfl ?_
  refine R.assign ?_
  refine R.assign ?_
  refine R.nil ?_
  refine E.seq ?_
  refine E.seq ?_
  refine E.regionP rfl ?_
  refine R.assign ?_
  refine R.nil ?_
  refine E.block ?_
  refine E.loop (fun n e wr => ∃ (i c nx : Nat) (ys : List (List Int)) (ov : Value), n = ss.length - i ∧ i ≤ ss.length ∧ c ≤ i ∧ goP H ord ys nx (ss.drop i) c = goP H ord xss 0 ss 0 ∧ RightP ys (H : Int) ∧ nx ≤ ord.length ∧ Ext w wr ∧ YK w wr ov H ys ∧ Blk wr b3 24 #[ov, .int .i64 H] ∧ Has e [(1, vo), (2, vss), (3, .pointer (some ⟨b3, 0, none⟩)), (8, .int .i64 (nx : Nat)), (9, .int .i64 (c : Nat)), (10, .int .i64 (i : Nat))]) (ss.length) ?_ ?_
  · exact ⟨0, 0, 0, xss, v, rfl, Nat.zero_le _, Nat.le_refl _, by simp, hRP, Nat.zero_le _, hE, .inl ⟨us, hm⟩, hB3, rfl, rfl, rfl, rfl, rfl, rfl, trivial⟩
  · rintro n e wr ⟨i, c, nx, ys, ov, rfl, hi, hci, hq, hR, hnx, hE, hY, hB3, hH⟩
    obtain ⟨e, rfl⟩ := hH.ex
    clear hH
    refine E.seq ?_
    refine E.seq ?_
    refine E.regionP rfl ?_
    refine R.move ?_
    refine R.move ?_
    refine R.len Try.underlying62 hss rfl ?_
    refine R.lss rfl rfl rfl ?_
    refine R.nil ?_
    refine E.cond rfl (fun hc20 => ?_) (fun hc20 => ?_)
    · replace hc20 := dT hc20
      have hi1 : i < ss.length := by omega
      refine E.skip ?_
      refine E.seq ?_
      refine E.block ?_
      refine E.seq ?_
      rcases hF : findL ys ss[i].1 with _ | ⟨a, k⟩
      · have hbad : doL ys H ord nx ss[i] = none := doL_nobox hF
        refine E.regionW (fun _ b => b < wr.heap.size) [] mixed rfl (by kernel_rfl) ?_
        intro w2 hx2 hh2
        replace hY := hY.ext hx2
        replace hB3 := hB3.ext hx2
        replace hE := hE.ext hx2
        have hEs : Ext w2 w2 := Upd.refl _
        have hS0 := hx2.size
        have hSs : ∀ b, b < w2.heap.size → b < wr.heap.size := fun b hb => by rw [hh2] at hb; exact hb
        have hSa : ∀ b, b < w.heap.size → b < wr.heap.size := fun b hb => by have := hE.size; rw [hh2] at this; omega
        have hYs := hY
        have hB3s := hB3
        refine R.loadAE t24 hB3s hEs rfl rfl rfl hSs ?_
        refine R.move ?_
        refine R.move ?_
        refine R.ix Try.underlying62 t68 (by decide) hss rfl rfl (by omega) ?_
        refine R.fldE (j := i * 3) fa68_0 hss (by rw [stepsC_len]; omega) rfl ?_
        refine R.ldStep (k := 0) t3 hss hE hi1 (stepsC_at0 hi1) rfl rfl hSa ?_
        refine R.callE2 ent23 (findP _ (hY.mat hE) hR.l6 hR.x6 hF) rfl rfl (fun _ _ hb => Nat.lt_of_lt_of_le hb (Nat.le_trans hS0 hEs.size)) ?_
        rintro v30 w3 hx3 rfl
        replace hY := hY.ext hx3
        replace hB3 := hB3.ext hx3
        replace hE := hE.ext hx3
        replace hEs := hEs.ext hx3
        refine R.move ?_
        refine R.extract rfl rfl ?_
        refine R.extract rfl rfl ?_
        refine R.extract rfl rfl ?_
        refine R.assign ?_
        refine R.assign ?_
        refine R.assign ?_
        refine R.nil ?_
        refine E.seq ?_
        refine E.seq ?_
        refine E.regionP rfl ?_
        refine R.move ?_
        refine R.not rfl ?_
        refine R.move ?_
        refine R.gF rfl rfl rfl ?_
        refine R.gF rfl rfl rfl ?_
        refine R.gF rfl rfl rfl ?_
        refine R.gF rfl rfl rfl ?_
        refine R.gF rfl rfl rfl ?_
        refine R.gF rfl rfl rfl ?_
        refine R.gF rfl rfl rfl ?_
        refine R.pickT rfl ?_
        refine R.nil ?_
        refine E.condT rfl ?_
        refine E.seq ?_
        refine E.regionP rfl ?_
        refine R.assign ?_
        refine R.assign ?_
        refine R.nil ?_
        refine E.ret ?_
        exact ret2 (.int .i64 0) (.bool false) rfl rfl rfl ⟨_, rfl, hE, by rw [← hq, goP_none hi1 hbad]; rfl⟩
      · obtain ⟨ha, hk, hak⟩ := findL_nth hF
        have hga : ys.getD a [] = ys[a] := by simp [ha]
        have hal := sum_lengths hR _ (List.getElem_mem ha)
        refine E.regionW (fun _ b => b < wr.heap.size) [] mixed rfl (by kernel_rfl) ?_
        intro w4 hx4 hh4
        replace hY := hY.ext hx4
        replace hB3 := hB3.ext hx4
        replace hE := hE.ext hx4
        have hEs : Ext w4 w4 := Upd.refl _
        have hS0 := hx4.size
        have hSs : ∀ b, b < w4.heap.size → b < wr.heap.size := fun b hb => by rw [hh4] at hb; exact hb
        have hSa : ∀ b, b < w.heap.size → b < wr.heap.size := fun b hb => by have := hE.size; rw [hh4] at this; omega
        have hYs := hY
        have hB3s := hB3
        refine R.loadAE t24 hB3s hEs rfl rfl rfl hSs ?_
        refine R.move ?_
        refine R.move ?_
        refine R.ix Try.underlying62 t68 (by decide) hss rfl rfl (by omega) ?_
        refine R.fldE (j := i * 3) fa68_0 hss (by rw [stepsC_len]; omega) rfl ?_
        refine R.ldStep (k := 0) t3 hss hE hi1 (stepsC_at0 hi1) rfl rfl hSa ?_
        refine R.callE2 ent23 (findQ _ (hY.mat hE) hR.l6 hR.x6 hF) rfl rfl (fun _ _ hb => Nat.lt_of_lt_of_le hb (Nat.le_trans hS0 hEs.size)) ?_
        rintro v30 w5 hx5 rfl
        replace hY := hY.ext hx5
        replace hB3 := hB3.ext hx5
        replace hE := hE.ext hx5
        replace hEs := hEs.ext hx5
        refine R.move ?_
        refine R.extract rfl rfl ?_
        refine R.extract rfl rfl ?_
        refine R.extract rfl rfl ?_
        refine R.assign ?_
        refine R.assign ?_
        refine R.assign ?_
        refine R.nil ?_
        refine E.seq ?_
        refine E.seq ?_
        refine E.regionP rfl ?_
        refine R.move ?_
        refine R.not rfl ?_
        refine R.move ?_
        refine R.gT rfl rfl ?_
        refine R.move ?_
        refine R.gT rfl rfl ?_
        refine R.move ?_
        refine R.gT rfl rfl ?_
        refine R.move ?_
        refine R.gT rfl rfl ?_
        refine R.ix Try.underlying62 t68 (by decide) hss rfl rfl (by omega) ?_
        refine R.gT rfl rfl ?_
        refine R.fldE (j := i * 3) fa68_1 hss (by rw [stepsC_len]; omega) rfl ?_
        refine R.gT rfl rfl ?_
        refine R.ldStep (k := 1) t3 hss hE hi1 (stepsC_at1 hi1) rfl rfl (fun _ _ => trivial) ?_
        refine R.gT rfl rfl ?_
        refine R.neq rfl rfl rfl ?_
        refine R.pickF rfl ?_
        refine R.nil ?_
        refine E.cond rfl (fun hc44 => ?_) (fun hc44 => ?_)
        · replace hc44 := nT hc44
          have hbad : doL ys H ord nx ss[i] = none := doL_where hR hF (fun q => hc44 q.1)
          refine E.seq ?_
          refine E.regionP rfl ?_
          refine R.assign ?_
          refine R.assign ?_
          refine R.nil ?_
          refine E.ret ?_
          exact ret2 (.int .i64 0) (.bool false) rfl rfl rfl ⟨_, rfl, hE, by rw [← hq, goP_none hi1 hbad]; rfl⟩
        · replace hc44 := nF hc44
          refine E.skip ?_
          refine E.seq ?_
          refine E.regionP rfl ?_
          refine R.assign ?_
          refine R.nil ?_
          refine E.seq ?_
          refine E.seq ?_
          refine E.regionP rfl ?_
          refine R.move ?_
          refine R.move ?_
          refine R.ix Try.underlying62 t68 (by decide) hss rfl rfl (by omega) ?_
          refine R.fldE (j := i * 3) fa68_2 hss (by rw [stepsC_len]; omega) rfl ?_
          refine R.ldStep (k := 2) t3 hss hE hi1 (stepsC_at2 hi1) rfl rfl (fun _ _ => trivial) ?_
          refine R.eql rfl rfl rfl ?_
          refine R.nil ?_
          refine E.cond rfl (fun hc50 => ?_) (fun hc50 => ?_)
          · replace hc50 := dT hc50
            refine E.seq ?_
            refine E.seq ?_
            rcases Nat.lt_or_ge nx ord.length with hn | hn
            · refine E.regionW allS [] mixed rfl (by kernel_rfl) ?_
              intro w6 hx6 hh6
              replace hY := hY.ext hx6
              replace hB3 := hB3.ext hx6
              replace hE := hE.ext hx6
              refine R.move ?_
              refine R.move ?_
              refine R.len Try.underlying35 ho rfl ?_
              refine R.eql (b := false) rfl rfl (decide_eq_false (by omega)) ?_
              refine R.move ?_
              refine R.gT rfl rfl ?_
              refine R.move ?_
              refine R.gT rfl rfl ?_
              refine R.move ?_
              refine R.gT rfl rfl ?_
              refine R.ix (m := nx) Try.underlying35 t3 (by decide) ho rfl rfl hn ?_
              refine R.gT rfl rfl ?_
              refine R.ld (j := nx) t3 (ho.ext hE) rfl (int_at hn) rfl (fun _ _ => trivial) ?_
              refine R.gT rfl rfl ?_
              refine R.move ?_
              refine R.gT rfl rfl ?_
              refine R.move ?_
              refine R.gT rfl rfl ?_
              refine R.ix Try.underlying62 t68 (by decide) hss rfl rfl (by omega) ?_
              refine R.gT rfl rfl ?_
              refine R.fldE (j := i * 3) fa68_0 hss (by rw [stepsC_len]; omega) rfl ?_
              refine R.gT rfl rfl ?_
              refine R.ldStep (k := 0) t3 hss hE hi1 (stepsC_at0 hi1) rfl rfl (fun _ _ => trivial) ?_
              refine R.gT rfl rfl ?_
              refine R.neq rfl rfl rfl ?_
              refine R.pickF rfl ?_
              refine R.nil ?_
              refine E.cond rfl (fun hc66 => ?_) (fun hc66 => ?_)
              · replace hc66 := nT hc66
                have hbad : doL ys H ord nx ss[i] = none := doL_order (by rw [getD_at hn]; exact hc66) hc50
                refine E.seq ?_
                refine E.regionP rfl ?_
                refine R.assign ?_
                refine R.assign ?_
                refine R.nil ?_
                refine E.ret ?_
                exact ret2 (.int .i64 0) (.bool false) rfl rfl rfl ⟨_, rfl, hE, by rw [← hq, goP_none hi1 hbad]; rfl⟩
              · replace hc66 := nF hc66
                refine E.skip ?_
                refine E.seq ?_
                refine E.regionP rfl ?_
                refine R.move ?_
                refine R.addN (m := nx) (n := 1) rfl rfl (by omega) ?_
                refine R.assign ?_
                refine R.nil ?_
                have hk2 : k + 1 < ys[a].length ∨ ys[a].length ≤ k + 1 := Nat.lt_or_ge _ _
                rw [← hga] at hk2
                rcases hk2 with hk1 | hk1
                · have hbad : doL ys H ord nx ss[i] = none := doL_where hR hF (fun q => absurd q.2 (Nat.ne_of_lt hk1))
                  refine E.regionW (fun c x => x < w6.heap.size ∧ (c = false → x ≠ b3)) [70]  mixed rfl (by kernel_rfl) ?_
                  intro w7 hx7 hh7
                  replace hY := hY.ext hx7
                  replace hB3 := hB3.ext hx7
                  replace hE := hE.ext hx7
                  have hEs : Ext w7 w7 := Upd.refl _
                  have hS0 := hx7.size
                  have hSB : ∀ b, b < w7.heap.size → b < w6.heap.size ∧ (true = false → (fun x => x ≠ b3) b) := fun b hb => ⟨by rw [hh7] at hb; exact hb, nofun⟩
                  have hSA : ∀ b, b < w7.heap.size → (fun x => x ≠ b3) b → b < w6.heap.size ∧ (false = false → (fun x => x ≠ b3) b) := fun b hb h => ⟨by rw [hh7] at hb; exact hb, fun _ => h⟩
                  have hSO : ∀ b, b < w.heap.size → b < w6.heap.size ∧ (false = false → (fun x => x ≠ b3) b) := fun b hb => hSA b (Nat.lt_of_lt_of_le hb hE.size) (fun e => by omega)
                  have hYs := hY
                  have hB3s := hB3
                  refine R.loadA t24 hB3 rfl rfl rfl (hSB b3 hB3s.lt) ?_
                  refine R.move ?_
                  refine R.move ?_
                  refine R.ix Try.underlying62 t68 (by decide) hss rfl rfl (by omega) ?_
                  refine R.fldE (j := i * 3) fa68_0 hss (by rw [stepsC_len]; omega) rfl ?_
                  refine R.ldStep (k := 0) t3 hss hE hi1 (stepsC_at0 hi1) rfl rfl hSO ?_
                  refine R.callE2 ent25 (yTakeP _ (hY.mat hE) hR.l6 hR.x6 (takeR_no hR hF hk1)) rfl rfl (fun _ _ hb => Nat.lt_of_lt_of_le hb.1 (Nat.le_trans hS0 hEs.size)) ?_
                  rintro v76 w8 hx8 ⟨u76, rfl, hY76⟩
                  replace hY76 := hY76.mono hE.size
                  replace hY := hY.ext hx8
                  replace hB3 := hB3.ext hx8
                  replace hE := hE.ext hx8
                  replace hEs := hEs.ext hx8
                  refine R.move ?_
                  refine R.extract rfl rfl ?_
                  refine R.extract rfl rfl ?_
                  refine R.storeA t24 hB3 rfl rfl rfl rfl (ones2 hY76.one' rfl) (fun _ h => h.2 rfl rfl) ?_
                  intro w100 hU100 hs100 hN100
                  replace hY76 := hY76.upT hU100 hB3 (by decide)
                  replace hE := hE.own hU100 hb3
                  replace hB3 : Blk _ b3 24 #[u76, .int .i64 0] := hN100
                  refine R.assign ?_
                  refine R.nil ?_
                  refine E.seq ?_
                  refine E.regionP rfl ?_
                  refine R.move ?_
                  refine R.neq (b := true) rfl rfl (by simp) ?_
                  refine R.nil ?_
                  refine E.condT rfl ?_
                  refine E.seq ?_
                  refine E.regionP rfl ?_
                  refine R.assign ?_
                  refine R.assign ?_
                  refine R.nil ?_
                  refine E.ret ?_
                  exact ret2 (.int .i64 0) (.bool false) rfl rfl rfl ⟨_, rfl, hE, by rw [← hq, goP_none hi1 hbad]; rfl⟩
                · have hku : k + 1 = ys[a].length := by rw [hga] at hk1; omega
                  have hdo : doL ys H ord nx ss[i] = some (ys.set a (ys[a].take k), nx + 1) := by
                    have h1 := doL_take (ord := ord) (nx := nx) hR ha (by omega) ss[i].1 (by rw [← hak]; congr 1; omega)
                    rw [getD_at hn, if_pos hc66.symm, List.dropLast_eq_take] at h1
                    have hbx2 : ss[i] = (ss[i].1, (a : Int), -1) := by rw [hc44, ← hc50]
                    refine (congrArg (doL ys H ord nx) hbx2).trans (h1.trans ?_)
                    rw [show ys[a].length - 1 = k by omega]
                  have htk : takeR ys H ss[i].1 = (ys.set a (ys[a].take k), (H : Int), 0) := by rw [← hak]; exact hR.take_top ha hk hku
                  refine E.regionW (fun c x => x < w6.heap.size ∧ (c = false → x ≠ b3)) [70]  mixed rfl (by kernel_rfl) ?_
                  intro w9 hx9 hh9
                  replace hY := hY.ext hx9
                  replace hB3 := hB3.ext hx9
                  replace hE := hE.ext hx9
                  have hEs : Ext w9 w9 := Upd.refl _
                  have hS0 := hx9.size
                  have hSB : ∀ b, b < w9.heap.size → b < w6.heap.size ∧ (true = false → (fun x => x ≠ b3) b) := fun b hb => ⟨by rw [hh9] at hb; exact hb, nofun⟩
                  have hSA : ∀ b, b < w9.heap.size → (fun x => x ≠ b3) b → b < w6.heap.size ∧ (false = false → (fun x => x ≠ b3) b) := fun b hb h => ⟨by rw [hh9] at hb; exact hb, fun _ => h⟩
                  have hSO : ∀ b, b < w.heap.size → b < w6.heap.size ∧ (false = false → (fun x => x ≠ b3) b) := fun b hb => hSA b (Nat.lt_of_lt_of_le hb hE.size) (fun e => by omega)
                  have hYs := hY
                  have hB3s := hB3
                  refine R.loadA t24 hB3 rfl rfl rfl (hSB b3 hB3s.lt) ?_
                  refine R.move ?_
                  refine R.move ?_
                  refine R.ix Try.underlying62 t68 (by decide) hss rfl rfl (by omega) ?_
                  refine R.fldE (j := i * 3) fa68_0 hss (by rw [stepsC_len]; omega) rfl ?_
                  refine R.ldStep (k := 0) t3 hss hE hi1 (stepsC_at0 hi1) rfl rfl hSO ?_
                  refine R.callE2 ent25 (yTakeP _ (hY.mat hE) hR.l6 hR.x6 htk) rfl rfl (fun _ _ hb => Nat.lt_of_lt_of_le hb.1 (Nat.le_trans hS0 hEs.size)) ?_
                  rintro v76 w10 hx10 ⟨u76, rfl, hY76⟩
                  replace hY76 := hY76.mono hE.size
                  replace hY := hY.ext hx10
                  replace hB3 := hB3.ext hx10
                  replace hE := hE.ext hx10
                  replace hEs := hEs.ext hx10
                  refine R.move ?_
                  refine R.extract rfl rfl ?_
                  refine R.extract rfl rfl ?_
                  refine R.storeA t24 hB3 rfl rfl rfl rfl (ones2 hY76.one' rfl) (fun _ h => h.2 rfl rfl) ?_
                  intro w101 hU101 hs101 hN101
                  replace hY76 := hY76.upT hU101 hB3 (by decide)
                  replace hE := hE.own hU101 hb3
                  replace hB3 : Blk _ b3 24 #[u76, .int .i64 H] := hN101
                  replace hY : YK w w101 u76 H _ := .inr hY76
                  refine R.assign ?_
                  refine R.nil ?_
                  refine E.seq ?_
                  refine E.regionP rfl ?_
                  refine R.move ?_
                  refine R.neq (b := false) rfl rfl (by simp) ?_
                  refine R.nil ?_
                  refine E.condF rfl ?_
                  refine E.skip ?_
                  refine E.regionP rfl ?_
                  refine R.move ?_
                  refine R.addN (n := 1) rfl rfl (by omega) ?_
                  refine R.assign ?_
                  refine R.nil ?_
                  exact ⟨ss.length - (i + 1), by omega, i + 1, c, nx + 1, _, u76, rfl, by omega, by omega, by rw [← hq, goP_some hi1 hdo, if_neg (by rw [hc50]; decide)], doL_right hR hdo, (doL_some hdo).2.2.1 hnx, hE, hY, hB3, rfl, rfl, rfl, rfl, rfl, rfl, trivial⟩
            · have hbad : doL ys H ord nx ss[i] = none := doL_last (by omega) hc50
              refine E.regionW allS [] mixed rfl (by kernel_rfl) ?_
              intro w11 hx11 hh11
              replace hY := hY.ext hx11
              replace hB3 := hB3.ext hx11
              replace hE := hE.ext hx11
              refine R.move ?_
              refine R.move ?_
              refine R.len Try.underlying35 ho rfl ?_
              refine R.eql (b := true) rfl rfl (decide_eq_true (by omega)) ?_
              refine R.move ?_
              refine R.gF rfl rfl rfl ?_
              refine R.gF rfl rfl rfl ?_
              refine R.gF rfl rfl rfl ?_
              refine R.gF rfl rfl rfl ?_
              refine R.gF rfl rfl rfl ?_
              refine R.gF rfl rfl rfl ?_
              refine R.gF rfl rfl rfl ?_
              refine R.gF rfl rfl rfl ?_
              refine R.gF rfl rfl rfl ?_
              refine R.gF rfl rfl rfl ?_
              refine R.pickT rfl ?_
              refine R.nil ?_
              refine E.condT rfl ?_
              refine E.seq ?_
              refine E.regionP rfl ?_
              refine R.assign ?_
              refine R.assign ?_
              refine R.nil ?_
              refine E.ret ?_
              exact ret2 (.int .i64 0) (.bool false) rfl rfl rfl ⟨_, rfl, hE, by rw [← hq, goP_none hi1 hbad]; rfl⟩
          · replace hc50 := dF hc50
            refine E.seq ?_
            refine E.regionP rfl ?_
            refine R.move ?_
            refine R.addN (m := c) (n := 1) rfl rfl (by omega) ?_
            refine R.assign ?_
            refine R.nil ?_
            refine E.seq ?_
            refine E.regionW (fun _ b => b < w5.heap.size) [] mixed rfl (by kernel_rfl) ?_
            intro w12 hx12 hh12
            replace hY := hY.ext hx12
            replace hB3 := hB3.ext hx12
            replace hE := hE.ext hx12
            have hEs : Ext w12 w12 := Upd.refl _
            have hS0 := hx12.size
            have hSs : ∀ b, b < w12.heap.size → b < w5.heap.size := fun b hb => by rw [hh12] at hb; exact hb
            have hSa : ∀ b, b < w.heap.size → b < w5.heap.size := fun b hb => by have := hE.size; rw [hh12] at this; omega
            have hYs := hY
            have hB3s := hB3
            refine R.loadAE t24 hB3s hEs rfl rfl rfl hSs ?_
            refine R.move ?_
            refine R.move ?_
            refine R.ix Try.underlying62 t68 (by decide) hss rfl rfl (by omega) ?_
            refine R.fldE (j := i * 3) fa68_0 hss (by rw [stepsC_len]; omega) rfl ?_
            refine R.ldStep (k := 0) t3 hss hE hi1 (stepsC_at0 hi1) rfl rfl hSa ?_
            refine R.callE2 ent24 (aboveP _ (h := (H : Int)) (hY.mat hE) hR.l6 hR.x6 (show aboveL ys H ss[i].1 = ((ys[a].drop (k + 1)).reverse, 0) by simp [aboveL, hR.b, hF, ha])) rfl rfl (fun _ _ hb => Nat.lt_of_lt_of_le hb (Nat.le_trans hS0 hEs.size)) ?_
            rintro v88 w13 hx13 ⟨u88, rfl, hS88, hf88⟩
            replace hY := hY.ext hx13
            replace hB3 := hB3.ext hx13
            replace hE := hE.ext hx13
            replace hEs := hEs.ext hx13
            refine R.move ?_
            refine R.extract rfl rfl ?_
            refine R.extract rfl rfl ?_
            refine R.assign ?_
            refine R.assign ?_
            refine R.nil ?_
            refine E.seq ?_
            refine E.seq ?_
            refine E.regionP rfl ?_
            refine R.move ?_
            refine R.neq (b := false) rfl rfl (by simp) ?_
            refine R.move ?_
            refine R.gT rfl rfl ?_
            refine R.move ?_
            refine R.gT rfl rfl ?_
            refine R.len Try.underlying35 hS88.row rfl ?_
            refine R.gT rfl rfl ?_
            refine R.gtr rfl rfl rfl ?_
            refine R.pickF rfl ?_
            refine R.nil ?_
            refine E.cond rfl (fun hc97 => ?_) (fun hc97 => ?_)
            · replace hc97 := dT hc97
              simp only [List.length_reverse, List.length_drop] at hc97
              have hbad : doL ys H ord nx ss[i] = none := doL_where hR hF (fun q => absurd q.2 (by rw [hga]; exact Nat.ne_of_lt (by omega)))
              refine E.seq ?_
              refine E.regionP rfl ?_
              refine R.assign ?_
              refine R.assign ?_
              refine R.nil ?_
              refine E.ret ?_
              exact ret2 (.int .i64 0) (.bool false) rfl rfl rfl ⟨_, rfl, hE, by rw [← hq, goP_none hi1 hbad]; rfl⟩
            · replace hc97 := dF hc97
              simp only [List.length_reverse, List.length_drop] at hc97
              have hku : k + 1 = ys[a].length := by omega
              have hd0 : doL ys H ord nx ss[i] = if (shiftL ys H ss[i].2.1 ss[i].2.2).2 = 0 then some ((shiftL ys H ss[i].2.1 ss[i].2.2).1, nx) else none := by
                have h1 := doL_shift2 (ord := ord) (nx := nx) hR ha (by omega) hc50
                rw [show ys[a][ys[a].length - 1] = ss[i].1 by rw [← hak]; congr 1; omega] at h1
                rw [hc44] at h1
                have hbx2 : ss[i] = (ss[i].1, ss[i].2.1, ss[i].2.2) := rfl
                exact (congrArg (doL ys H ord nx) hbx2).trans h1
              
              refine E.skip ?_
              have hs1 : (shiftL ys H ss[i].2.1 ss[i].2.2).2 = 0 ∨ ¬ (shiftL ys H ss[i].2.1 ss[i].2.2).2 = 0 := Decidable.em _
              rcases hs1 with hs0 | hs0
              · rw [if_pos hs0] at hd0
                have hdo := hd0
                refine E.regionW (fun c x => x < w13.heap.size ∧ (c = false → x ≠ b3)) [99]  mixed rfl (by kernel_rfl) ?_
                intro w14 hx14 hh14
                replace hY := hY.ext hx14
                replace hS88 := hS88.ext hx14
                replace hB3 := hB3.ext hx14
                replace hE := hE.ext hx14
                have hEs : Ext w14 w14 := Upd.refl _
                have hS0 := hx14.size
                have hSB : ∀ b, b < w14.heap.size → b < w13.heap.size ∧ (true = false → (fun x => x ≠ b3) b) := fun b hb => ⟨by rw [hh14] at hb; exact hb, nofun⟩
                have hSA : ∀ b, b < w14.heap.size → (fun x => x ≠ b3) b → b < w13.heap.size ∧ (false = false → (fun x => x ≠ b3) b) := fun b hb h => ⟨by rw [hh14] at hb; exact hb, fun _ => h⟩
                have hSO : ∀ b, b < w.heap.size → b < w13.heap.size ∧ (false = false → (fun x => x ≠ b3) b) := fun b hb => hSA b (Nat.lt_of_lt_of_le hb hE.size) (fun e => by omega)
                have hYs := hY
                have hS88s := hS88
                have hB3s := hB3
                refine R.loadA t24 hB3 rfl rfl rfl (hSB b3 hB3s.lt) ?_
                refine R.move ?_
                refine R.move ?_
                refine R.ix Try.underlying62 t68 (by decide) hss rfl rfl (by omega) ?_
                refine R.fldE (j := i * 3) fa68_1 hss (by rw [stepsC_len]; omega) rfl ?_
                refine R.ldStep (k := 1) t3 hss hE hi1 (stepsC_at1 hi1) rfl rfl hSO ?_
                refine R.move ?_
                refine R.move ?_
                refine R.ix Try.underlying62 t68 (by decide) hss rfl rfl (by omega) ?_
                refine R.fldE (j := i * 3) fa68_2 hss (by rw [stepsC_len]; omega) rfl ?_
                refine R.ldStep (k := 2) t3 hss hE hi1 (stepsC_at2 hi1) rfl rfl hSO ?_
                refine R.build build30 rfl ?_
                refine R.callE2 ent36 (yShiftP _ (hY.mat hE) hR.l6 hR.x6 (hR.shiftR_ok hs0)) rfl rfl (fun _ _ hb => Nat.lt_of_lt_of_le hb.1 (Nat.le_trans hS0 hEs.size)) ?_
                rintro v111 w15 hx15 ⟨u111, rfl, hY111⟩
                replace hY111 := hY111.mono hE.size
                replace hY := hY.ext hx15
                replace hS88 := hS88.ext hx15
                replace hB3 := hB3.ext hx15
                replace hE := hE.ext hx15
                replace hEs := hEs.ext hx15
                refine R.move ?_
                refine R.extract rfl rfl ?_
                refine R.extract rfl rfl ?_
                refine R.storeA t24 hB3 rfl rfl rfl rfl (ones2 hY111.one' rfl) (fun _ h => h.2 rfl rfl) ?_
                intro w102 hU102 hs102 hN102
                replace hY111 := hY111.upT hU102 hB3 (by decide)
                replace hE := hE.own hU102 hb3
                replace hB3 : Blk _ b3 24 #[u111, .int .i64 H] := hN102
                replace hY : YK w w102 u111 H _ := .inr hY111
                refine R.assign ?_
                refine R.nil ?_
                refine E.seq ?_
                refine E.regionP rfl ?_
                refine R.move ?_
                refine R.neq (b := false) rfl rfl (by simp) ?_
                refine R.nil ?_
                refine E.condF rfl ?_
                refine E.skip ?_
                refine E.regionP rfl ?_
                refine R.move ?_
                refine R.addN (n := 1) rfl rfl (by omega) ?_
                refine R.assign ?_
                refine R.nil ?_
                exact ⟨ss.length - (i + 1), by omega, i + 1, c + 1, nx, _, u111, rfl, by omega, by omega, by rw [← hq, goP_some hi1 hdo, if_pos (by have := doL_kind hdo; omega)], doL_right hR hdo, (doL_some hdo).2.2.1 hnx, hE, hY, hB3, rfl, rfl, rfl, rfl, rfl, rfl, trivial⟩
              · rw [if_neg hs0] at hd0
                have hbad := hd0
                refine E.regionW (fun c x => x < w13.heap.size ∧ (c = false → x ≠ b3)) [99]  mixed rfl (by kernel_rfl) ?_
                intro w16 hx16 hh16
                replace hY := hY.ext hx16
                replace hS88 := hS88.ext hx16
                replace hB3 := hB3.ext hx16
                replace hE := hE.ext hx16
                have hEs : Ext w16 w16 := Upd.refl _
                have hS0 := hx16.size
                have hSB : ∀ b, b < w16.heap.size → b < w13.heap.size ∧ (true = false → (fun x => x ≠ b3) b) := fun b hb => ⟨by rw [hh16] at hb; exact hb, nofun⟩
                have hSA : ∀ b, b < w16.heap.size → (fun x => x ≠ b3) b → b < w13.heap.size ∧ (false = false → (fun x => x ≠ b3) b) := fun b hb h => ⟨by rw [hh16] at hb; exact hb, fun _ => h⟩
                have hSO : ∀ b, b < w.heap.size → b < w13.heap.size ∧ (false = false → (fun x => x ≠ b3) b) := fun b hb => hSA b (Nat.lt_of_lt_of_le hb hE.size) (fun e => by omega)
                have hYs := hY
                have hS88s := hS88
                have hB3s := hB3
                refine R.loadA t24 hB3 rfl rfl rfl (hSB b3 hB3s.lt) ?_
                refine R.move ?_
                refine R.move ?_
                refine R.ix Try.underlying62 t68 (by decide) hss rfl rfl (by omega) ?_
                refine R.fldE (j := i * 3) fa68_1 hss (by rw [stepsC_len]; omega) rfl ?_
                refine R.ldStep (k := 1) t3 hss hE hi1 (stepsC_at1 hi1) rfl rfl hSO ?_
                refine R.move ?_
                refine R.move ?_
                refine R.ix Try.underlying62 t68 (by decide) hss rfl rfl (by omega) ?_
                refine R.fldE (j := i * 3) fa68_2 hss (by rw [stepsC_len]; omega) rfl ?_
                refine R.ldStep (k := 2) t3 hss hE hi1 (stepsC_at2 hi1) rfl rfl hSO ?_
                refine R.build build30 rfl ?_
                refine R.callE2 ent36 (yShiftP _ (hY.mat hE) hR.l6 hR.x6 (hR.shiftR_no hs0)) rfl rfl (fun _ _ hb => Nat.lt_of_lt_of_le hb.1 (Nat.le_trans hS0 hEs.size)) ?_
                rintro v111 w17 hx17 ⟨u111, rfl, hY111⟩
                replace hY111 := hY111.mono hE.size
                replace hY := hY.ext hx17
                replace hS88 := hS88.ext hx17
                replace hB3 := hB3.ext hx17
                replace hE := hE.ext hx17
                replace hEs := hEs.ext hx17
                refine R.move ?_
                refine R.extract rfl rfl ?_
                refine R.extract rfl rfl ?_
                refine R.storeA t24 hB3 rfl rfl rfl rfl (ones2 hY111.one' rfl) (fun _ h => h.2 rfl rfl) ?_
                intro w103 hU103 hs103 hN103
                replace hY111 := hY111.upT hU103 hB3 (by decide)
                replace hE := hE.own hU103 hb3
                replace hB3 : Blk _ b3 24 #[u111, .int .i64 0] := hN103
                refine R.assign ?_
                refine R.nil ?_
                refine E.seq ?_
                refine E.regionP rfl ?_
                refine R.move ?_
                refine R.neq (b := true) rfl rfl (by simpa using hs0) ?_
                refine R.nil ?_
                refine E.condT rfl ?_
                refine E.seq ?_
                refine E.regionP rfl ?_
                refine R.assign ?_
                refine R.assign ?_
                refine R.nil ?_
                refine E.ret ?_
                exact ret2 (.int .i64 0) (.bool false) rfl rfl rfl ⟨_, rfl, hE, by rw [← hq, goP_none hi1 hbad]; rfl⟩
    · replace hc20 := dF hc20
      obtain rfl : i = ss.length := by omega
      rw [goP_end rfl] at hq
      refine E.exit ?_
      refine E.seq ?_
      refine E.regionP rfl ?_
      refine R.move ?_
      refine R.move ?_
      refine R.move ?_
      refine R.len Try.underlying35 ho rfl ?_
      refine R.eql rfl rfl rfl ?_
      refine R.assign ?_
      refine R.assign ?_
      refine R.nil ?_
      refine E.ret ?_
      exact ret2 (.int .i64 (c : Nat)) (.bool (decide (nx = ord.length))) rfl rfl (by show Value.bool _ = _; congr 1; exact decide_eq_decide.2 (by omega)) ⟨_, rfl, hE, by rw [← hq]⟩
end Go.Proofs.Ytfdmndkoiheebaa
