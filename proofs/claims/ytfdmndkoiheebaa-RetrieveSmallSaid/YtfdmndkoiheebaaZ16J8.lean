import Derived.Test.YtfdmndkoiheebaaZ16J7
import Derived.Test.YtfdmndkoiheebaaZ16C6
namespace Go.Proofs.Ytfdmndkoiheebaa
open Go Go.RowKit
theorem run_equal68 {w : World} {a b c a' b' c' : Int} : (Op.equalIn 10000 68 (.agg #[.int .i64 a, .int .i64 b, .int .i64 c]) (.agg #[.int .i64 a', .int .i64 b', .int .i64 c'])).run Try.prog w = .ok (decide (a = a' ∧ b = b' ∧ c = c')) w := by
  rw [run_equalIn_struct w 9999 68 _ _ (by kernel_rfl) (by kernel_rfl)]
  have hf : Try.prog.fieldsOf 68 = (match Try.prog.underlying 68 with | some (.struct fs) => fs | _ => #[]) := by kernel_rfl
  rw [hf, Try.underlying68]
  have hag : ∀ w, (isAgg 3).run Try.prog w = .ok false w := fun w => t3.isAgg w
  have hsz : ∀ w, (sizeOf 3).run Try.prog w = .ok 1 w := fun w => t3.sizeOf w
  by_cases h1 : a = a' <;> by_cases h2 : b = b' <;> by_cases h3 : c = c' <;> simp [Op.eqFields, part, hag, hsz, run_equalIn_int _ _ _ _ _ _ _ Try.underlying3, h1, h2, h3]
theorem R.neq68 {ops : Array Oper} {S : Bool → Nat → Prop} {dr : Bool} {B : List Nat} {F : Env → World → Prop} {rest : List Oper} {e : Env} {w : World} {d : Tmp} {ty : TypeId} {pos : String} {aft : Array Edge} {t' : TypeId} {x y : Operand} {s t : Int × Int × Int} (hx : ev e x = .agg #[.int .i64 s.1, .int .i64 s.2.1, .int .i64 s.2.2]) (hy : ev e y = .agg #[.int .i64 t.1, .int .i64 t.2.1, .int .i64 t.2.2])
    (h : wpR Try.prog ops S dr (kind B) F rest (upd e d (.bool (!decide (s = t)))) w) : wpR Try.prog ops S dr (kind B) F (⟨some d, .binOp .neq 68 x y t', ty, pos, aft, none⟩ :: rest) e w := by
  refine R.quiet (.bool (!decide (s = t))) rfl (fun w' _ => ?_) h
  have hg : ∀ w, (eqGuard .neq 68 x y (.agg #[.int .i64 s.1, .int .i64 s.2.1, .int .i64 s.2.2]) (.agg #[.int .i64 t.1, .int .i64 t.2.1, .int .i64 t.2.2])).run Try.prog w = .ok () w := fun w => run_eqGuard_agg w .neq 68 x y _ _ (by kernel_rfl)
  have he : decide (s.1 = t.1 ∧ s.2.1 = t.2.1 ∧ s.2.2 = t.2.2) = decide (s = t) := by obtain ⟨a, b, c⟩ := s; obtain ⟨a', b', c'⟩ := t; simp
  simp only [execOp, hx, hy, Sem.run_bind, hg, Result.andThen_ok, run_neq_struct, run_equal68, he, Sem.run_pure]
theorem steps_of {w : World} {v : Value} {n : Nat} {cs : List Value} {ss : List (Int × Int × Int)} (h : Sl w 68 3 v n cs) (hc : cs = stepsC ss) (hn : n = ss.length) : Steps w v ss := by
  subst hc hn
  exact h.row
theorem MO.cut {w : World} {v : Value} {us : List Value} {xss : List (List Int)} (h : MO w v us xss) {k : Nat} (hk : k ≤ xss.length) : MO w (cut 1 v 0 k) (us.take k) (xss.take k) := by
  have h1 := h.outer.cut (l := 0) (r := k) (Nat.zero_le _) hk
  have e : (us.drop (0 * 1)).take ((k - 0) * 1) = us.take k := by simp
  rw [e, Nat.sub_zero] at h1
  refine ⟨by rw [List.length_take, Nat.min_eq_left hk]; exact h1, fun i hi => ?_⟩
  rw [List.length_take] at hi
  obtain ⟨u, q1, q2⟩ := h.elems i (by omega)
  exact ⟨u, by rw [List.getElem?_take, if_pos (by omega)]; exact q1, by rw [List.getElem_take]; exact q2⟩
theorem same35 (w : World) {v1 v2 : Value} {ss tt : List (Int × Int × Int)} (h1 : Steps w v1 ss) (h2 : Steps w v2 tt) (hl : ss.length < 1000000000) (hl2 : tt.length < 1000000000) :
    Calls Try.prog 72 #[v1, v2] w (Ret fun r w' => Ext w w' ∧ r = .bool (decide (ss = tt))) := by
  refine calls_E (args := [v1, v2]) 26 Try.func72 rfl rfl (by simp) ?_
  have hE : Ext w w := Upd.refl w
  refine E.seq ?_
  refine E.regionP rfl ?_
  refine R.assign ?_
  refine R.nil ?_
  refine E.seq ?_
  refine E.seq ?_
  refine E.regionP rfl ?_
  refine R.move ?_
  refine R.len Try.underlying62 h1 rfl ?_
  refine R.move ?_
  refine R.len Try.underlying62 h2 rfl ?_
  refine R.neq rfl rfl rfl ?_
  refine R.nil ?_
  refine E.cond rfl (fun hc10 => ?_) (fun hc10 => ?_)
  · replace hc10 := nT hc10
    refine E.seq ?_
    refine E.regionP rfl ?_
    refine R.assign ?_
    refine R.nil ?_
    refine E.ret ?_
    exact ret1 (.bool false) rfl rfl ⟨_, rfl, hE, by rw [decide_eq_false]; intro e; rw [e] at hc10; exact hc10 rfl⟩
  · replace hc10 := nF hc10
    have hlen : ss.length = tt.length := by omega
    refine E.skip ?_
    refine E.seq ?_
    refine E.seq ?_
    refine E.regionP rfl ?_
    refine R.assign ?_
    refine R.nil ?_
    refine E.block ?_
    refine E.loop (fun n e wr => ∃ (i : Nat), n = ss.length - i ∧ i ≤ ss.length ∧ ss.take i = tt.take i ∧ Ext w wr ∧ Has e [(0, v1), (1, v2), (5, .int .i64 (i : Nat))]) (ss.length) ?_ ?_
    · exact ⟨0, rfl, Nat.zero_le _, rfl, hE, rfl, rfl, rfl, trivial⟩
    · rintro n e wr ⟨i, rfl, hi, ht, hE, hH⟩
      obtain ⟨e, rfl⟩ := hH.ex
      clear hH
      refine E.seq ?_
      refine E.seq ?_
      refine E.regionP rfl ?_
      refine R.move ?_
      refine R.move ?_
      refine R.len Try.underlying62 h1 rfl ?_
      refine R.lss rfl rfl rfl ?_
      refine R.nil ?_
      refine E.cond rfl (fun hc14 => ?_) (fun hc14 => ?_)
      · replace hc14 := dT hc14
        have hi1 : i < ss.length := by omega
        have hi2 : i < tt.length := by omega
        refine E.skip ?_
        refine E.seq ?_
        refine E.block ?_
        refine E.seq ?_
        refine E.regionW allS [] mixed rfl (by kernel_rfl) ?_
        intro w1 hx1 hh1
        replace hE := hE.ext hx1
        refine R.move ?_
        refine R.move ?_
        refine R.ix Try.underlying62 t68 (by decide) h1 rfl rfl (by omega) ?_
        refine R.ldS t68 h1 hE (by omega) rfl rfl (fun _ _ => trivial) ?_
        refine R.move ?_
        refine R.move ?_
        refine R.ix Try.underlying62 t68 (by decide) h2 rfl rfl (by omega) ?_
        refine R.ldS t68 h2 hE (by omega) rfl rfl (fun _ _ => trivial) ?_
        refine R.neq68 (s := ss[i]) (t := tt[i]) rfl rfl ?_
        refine R.nil ?_
        refine E.cond rfl (fun hc25 => ?_) (fun hc25 => ?_)
        · replace hc25 := nT hc25
          refine E.seq ?_
          refine E.regionP rfl ?_
          refine R.assign ?_
          refine R.nil ?_
          refine E.ret ?_
          exact ret1 (.bool false) rfl rfl ⟨_, rfl, hE, by rw [decide_eq_false]; intro e; subst e; exact hc25 rfl⟩
        · replace hc25 := nF hc25
          refine E.skip ?_
          refine E.regionP rfl ?_
          refine R.move ?_
          refine R.addN (n := 1) rfl rfl (by omega) ?_
          refine R.assign ?_
          refine R.nil ?_
          exact ⟨ss.length - (i + 1), by omega, i + 1, rfl, by omega, by rw [take_snoc (List.getElem?_eq_getElem hi1), take_snoc (List.getElem?_eq_getElem hi2), ht, hc25], hE, rfl, rfl, rfl, trivial⟩
      · replace hc14 := dF hc14
        refine E.exit ?_
        refine E.seq ?_
        refine E.regionP rfl ?_
        refine R.assign ?_
        refine R.nil ?_
        refine E.ret ?_
        obtain rfl : i = ss.length := by omega
        rw [List.take_length, hlen, List.take_length] at ht
        exact ret1 (.bool true) rfl rfl ⟨_, rfl, hE, by rw [decide_eq_true ht]⟩
theorem example35 (w : World) :
    Calls Try.prog 71 #[] w (Ret fun r w' => Ext w w' ∧ ∃ v us, r = .agg #[v, .int .i64 3] ∧ MO w' v us [[5, 2], [7, 1], []]) := by
  refine calls_E (args := []) 5 Try.func71 rfl rfl (by simp) ?_
  have hE : Ext w w := Upd.refl w
  refine E.seq ?_
  refine E.regionP rfl ?_
  refine R.alloc t24 nofun ?_
  intro b0 w1 hb0 hx1 hB0
  replace hb0 := Nat.le_trans hE.size hb0
  replace hE := hE.ext hx1
  replace hB0 : Blk _ b0 24 #[.slice none 0 0, .int .i64 0] := hB0
  refine R.nil ?_
  refine E.seq ?_
  refine E.regionP rfl ?_
  refine R.buildSlice [.int .i64 5, .int .i64 2] Try.underlying35 t3 rfl rfl (by simp [Value.cells]) (by simp) nofun ?_
  intro b1 w2 hb1 hx2 hB1 hS1
  replace hb1 := Nat.le_trans hE.size hb1
  replace hB0 := hB0.ext hx2
  replace hE := hE.ext hx2
  refine R.buildSlice [.int .i64 7, .int .i64 1] Try.underlying35 t3 rfl rfl (by simp [Value.cells]) (by simp) nofun ?_
  intro b2 w3 hb2 hx3 hB2 hS2
  replace hb2 := Nat.le_trans hE.size hb2
  replace hS1 := hS1.ext hx3
  replace hB0 := hB0.ext hx3
  replace hE := hE.ext hx3
  refine R.buildSlice [.slice (some ⟨b1, 0, none⟩) 2 2, .slice (some ⟨b2, 0, none⟩) 2 2, .slice none 0 0] Try.underlying22 t35 rfl rfl (by simp [Value.cells]) (by simp) nofun ?_
  intro b3 w4 hb3 hx4 hB3 hS3
  replace hb3 := Nat.le_trans hE.size hb3
  replace hS1 := hS1.ext hx4
  replace hS2 := hS2.ext hx4
  replace hB0 := hB0.ext hx4
  replace hE := hE.ext hx4
  refine R.build (build24 hS3.one rfl) rfl ?_
  refine R.storeA t24 hB0 rfl rfl rfl rfl (ones2 hS3.one rfl) nofun ?_
  intro w5 hU5 hs5 hN5
  replace hS1 := hS1.upT hU5 hB0 (by decide)
  replace hS2 := hS2.upT hU5 hB0 (by decide)
  replace hS3 := hS3.upT hU5 hB0 (by decide)
  replace hE := hE.own hU5 hb0
  replace hB0 : Blk _ b0 24 #[_, .int .i64 3] := hN5
  clear hN5
  refine R.nil ?_
  refine E.ret ?_
  exact retA t24 hB0 rfl rfl rfl ⟨_, rfl, hE, _, _, rfl, mo3 (by simpa [cellsOf, Value.cells] using hS3) (by simpa [SInts, ints, cellsOf, Value.cells] using hS1) (by simpa [SInts, ints, cellsOf, Value.cells] using hS2) (SInts.nil _)⟩
theorem bound35a_eq : boundR [[5, 2], [7, 1], []] 3 [5, 1] = (1, 0) := by decide
theorem bound35a (w : World) {v vo : Value} {us : List Value} (hm : Mat w v us [[5, 2], [7, 1], []]) (ho : Ints w vo [5, 1]) :
    Calls Try.prog 44 #[.agg #[v, .int .i64 3], vo] w (Ret fun r w' => Ext w w' ∧ r = .tuple #[.int .i64 1, .int .i64 0]) := by
  have h := yBound w (h := 3) hm ho (by decide) (by decide) (by decide)
  rw [bound35a_eq] at h
  exact h
theorem bound35b_eq : boundR [[5, 2], [7, 1], []] 3 [7, 5, 1] = (2, 0) := by decide
theorem bound35b (w : World) {v vo : Value} {us : List Value} (hm : Mat w v us [[5, 2], [7, 1], []]) (ho : Ints w vo [7, 5, 1]) :
    Calls Try.prog 44 #[.agg #[v, .int .i64 3], vo] w (Ret fun r w' => Ext w w' ∧ r = .tuple #[.int .i64 2, .int .i64 0]) := by
  have h := yBound w (h := 3) hm ho (by decide) (by decide) (by decide)
  rw [bound35b_eq] at h
  exact h
theorem run35a_eq : runR [[5, 2], [7, 1], []] 3 [5, 1] = ([(2, 0, 2), (5, 0, -1), (1, 1, -1)], 0) := by decide
theorem run35a (w : World) {v vo : Value} {us : List Value} (hm : Mat w v us [[5, 2], [7, 1], []]) (ho : Ints w vo [5, 1]) :
    Calls Try.prog 45 #[.agg #[v, .int .i64 3], vo] w (Ret fun r w' => Ext w w' ∧ ∃ u, r = .tuple #[u, .int .i64 0] ∧ Sl w' 68 3 u 3 (stepsC [(2, 0, 2), (5, 0, -1), (1, 1, -1)]) ∧ Fresh w u) := by
  have h := yRun w (h := 3) hm ho (by decide) (by decide) (by decide)
  rw [run35a_eq] at h
  exact h
theorem run35b_eq : runR [[5, 2], [7, 1]] 2 [5, 1] = ([], 4) := by decide
theorem run35b (w : World) {v vo : Value} {us : List Value} (hm : Mat w v us [[5, 2], [7, 1]]) (ho : Ints w vo [5, 1]) :
    Calls Try.prog 45 #[.agg #[v, .int .i64 2], vo] w (Ret fun r w' => Ext w w' ∧ ∃ u, r = .tuple #[u, .int .i64 4] ∧ Sl w' 68 3 u 0 (stepsC []) ∧ Fresh w u) := by
  have h := yRun w (h := 2) hm ho (by decide) (by decide) (by decide)
  rw [run35b_eq] at h
  exact h
theorem run35c_eq : runR [[5, 2], [7, 1], []] 3 [7, 5, 1] = ([(1, 1, 2), (7, 1, -1), (2, 0, 1), (5, 0, -1), (1, 2, -1)], 0) := by decide
theorem run35c (w : World) {v vo : Value} {us : List Value} (hm : Mat w v us [[5, 2], [7, 1], []]) (ho : Ints w vo [7, 5, 1]) :
    Calls Try.prog 45 #[.agg #[v, .int .i64 3], vo] w (Ret fun r w' => Ext w w' ∧ ∃ u, r = .tuple #[u, .int .i64 0] ∧ Sl w' 68 3 u 5 (stepsC [(1, 1, 2), (7, 1, -1), (2, 0, 1), (5, 0, -1), (1, 2, -1)]) ∧ Fresh w u) := by
  have h := yRun w (h := 3) hm ho (by decide) (by decide) (by decide)
  rw [run35c_eq] at h
  exact h
theorem check35_eq : checkR [[5, 2], [7, 1], []] 3 [7, 5, 1] [(1, 1, 2), (7, 1, -1), (2, 0, 1), (5, 0, -1), (1, 2, -1)] = (2, 0) := by decide
theorem check35 (w : World) {v vo vs : Value} {us : List Value} (hm : Mat w v us [[5, 2], [7, 1], []]) (ho : Ints w vo [7, 5, 1]) (hs : Steps w vs [(1, 1, 2), (7, 1, -1), (2, 0, 1), (5, 0, -1), (1, 2, -1)]) :
    Calls Try.prog 46 #[.agg #[v, .int .i64 3], vo, vs] w (Ret fun r w' => Ext w w' ∧ r = .tuple #[.int .i64 2, .int .i64 0]) := by
  have h := yCheck w (h := 3) hm ho hs (by decide) (by decide) (by decide) (by decide)
  rw [check35_eq] at h
  exact h
theorem same35t (w : World) {v1 v2 : Value} {ss : List (Int × Int × Int)} (h1 : Steps w v1 ss) (h2 : Steps w v2 ss) (hl : ss.length < 1000000000) : Calls Try.prog 72 #[v1, v2] w (Ret fun r w' => Ext w w' ∧ r = .bool true) := by
  have h := same35 w h1 h2 hl hl
  simpa using h
set_option maxHeartbeats 1600000 in
theorem awake35 (w : World) : Calls Try.prog 38 #[] w (Ret fun r w' => Ext w w' ∧ r = .bool true) := by
  refine calls_E (args := []) 99 Try.func38 rfl rfl (by simp) ?_
  have hE : Ext w w := Upd.refl w
  refine E.seq ?_
  refine E.regionP rfl ?_
  refine R.assign ?_
  refine R.nil ?_
  refine E.seq ?_
  refine E.regionP rfl ?_
  refine R.callE0 ent71 (example35 _)  nofun ?_
  rintro v10 w1 hx1 ⟨u10, us10, rfl, hM10⟩
  replace hE := hE.ext hx1
  refine R.alloc t24 nofun ?_
  intro b1 w2 hb1 hx2 hB1
  replace hb1 := Nat.le_trans hE.size hb1
  replace hM10 := hM10.ext hx2
  replace hE := hE.ext hx2
  replace hB1 : Blk _ b1 24 #[.slice none 0 0, .int .i64 0] := hB1
  refine R.storeA t24 hB1 rfl rfl rfl rfl (ones2 hM10.row.one rfl) nofun ?_
  intro w3 hU3 hs3 hN3
  replace hM10 := hM10.upT hU3 hB1 (by decide)
  replace hE := hE.own hU3 hb1
  replace hB1 : Blk _ b1 24 #[u10, .int .i64 3] := hN3
  clear hN3
  refine R.nil ?_
  refine E.seq ?_
  refine E.regionP rfl ?_
  refine R.loadA t24 hB1 rfl rfl rfl trivial ?_
  refine R.buildSlice [.int .i64 5, .int .i64 1] Try.underlying35 t3 rfl rfl (by simp [Value.cells]) (by simp) nofun ?_
  intro b13 w4 hb13 hx4 hB13 hS13
  replace hb13 := Nat.le_trans hE.size hb13
  replace hM10 := hM10.ext hx4
  replace hB1 := hB1.ext hx4
  replace hE := hE.ext hx4
  refine R.callE2 ent44 (bound35a _ hM10.mat (ints_of hS13 (by simp [cellsOf, Value.cells, ints]) rfl)) rfl rfl nofun ?_
  rintro v14 w5 hx5 rfl
  replace hM10 := hM10.ext hx5
  replace hS13 := hS13.ext hx5
  replace hB1 := hB1.ext hx5
  replace hE := hE.ext hx5
  refine R.move ?_
  refine R.extract rfl rfl ?_
  refine R.extract rfl rfl ?_
  refine R.assign ?_
  refine R.assign ?_
  refine R.nil ?_
  refine E.seq ?_
  refine E.regionP rfl ?_
  refine R.loadA t24 hB1 rfl rfl rfl trivial ?_
  refine R.buildSlice [.int .i64 5, .int .i64 1] Try.underlying35 t3 rfl rfl (by simp [Value.cells]) (by simp) nofun ?_
  intro b19 w6 hb19 hx6 hB19 hS19
  replace hb19 := Nat.le_trans hE.size hb19
  replace hM10 := hM10.ext hx6
  replace hS13 := hS13.ext hx6
  replace hB1 := hB1.ext hx6
  replace hE := hE.ext hx6
  refine R.callE2 ent45 (run35a _ hM10.mat (ints_of hS19 (by simp [cellsOf, Value.cells, ints]) rfl)) rfl rfl nofun ?_
  rintro v20 w7 hx7 ⟨u20, rfl, hS20, hf20⟩
  replace hM10 := hM10.ext hx7
  replace hS13 := hS13.ext hx7
  replace hS19 := hS19.ext hx7
  replace hB1 := hB1.ext hx7
  replace hE := hE.ext hx7
  refine R.move ?_
  refine R.extract rfl rfl ?_
  refine R.extract rfl rfl ?_
  refine R.assign ?_
  refine R.assign ?_
  refine R.nil ?_
  refine E.seq ?_
  refine E.regionP rfl ?_
  refine R.fld fa24_0 rfl ?_
  refine R.loadB t22 hB1 rfl rfl rfl trivial ?_
  obtain ⟨a26, c26, hv26, hc26, _⟩ := id hM10.outer
  refine R.slc (l := 0) (r := 2) Try.underlying22 t35 rfl hv26 rfl ⟨_, rfl⟩ (Nat.zero_le _) (Nat.le_trans (by decide) hc26) ?_
  have hM26 := hM10.cut (k := 2) (by decide)
  refine R.build (build24 hM26.row.one rfl) rfl ?_
  refine R.buildSlice [.int .i64 5, .int .i64 1] Try.underlying35 t3 rfl rfl (by simp [Value.cells]) (by simp) nofun ?_
  intro b28 w8 hb28 hx8 hB28 hS28
  replace hb28 := Nat.le_trans hE.size hb28
  replace hM10 := hM10.ext hx8
  replace hS13 := hS13.ext hx8
  replace hS19 := hS19.ext hx8
  replace hS20 := hS20.ext hx8
  replace hM26 := hM26.ext hx8
  replace hB1 := hB1.ext hx8
  replace hE := hE.ext hx8
  refine R.callE2 ent45 (run35b _ hM26.mat (ints_of hS28 (by simp [cellsOf, Value.cells, ints]) rfl)) rfl rfl nofun ?_
  rintro v29 w9 hx9 ⟨u29, rfl, hS29, hf29⟩
  replace hM10 := hM10.ext hx9
  replace hS13 := hS13.ext hx9
  replace hS19 := hS19.ext hx9
  replace hS20 := hS20.ext hx9
  replace hM26 := hM26.ext hx9
  replace hS28 := hS28.ext hx9
  replace hB1 := hB1.ext hx9
  replace hE := hE.ext hx9
  refine R.move ?_
  refine R.extract rfl rfl ?_
  refine R.extract rfl rfl ?_
  refine R.assign ?_
  refine R.assign ?_
  refine R.nil ?_
  refine E.seq ?_
  refine E.seq ?_
  refine E.regionP rfl ?_
  refine R.move ?_
  refine R.neq (b := false) rfl rfl (by decide) ?_
  refine R.move ?_
  refine R.gT rfl rfl ?_
  refine R.move ?_
  refine R.gT rfl rfl ?_
  refine R.neq (b := false) rfl rfl (by decide) ?_
  refine R.pickF rfl ?_
  refine R.move ?_
  refine R.gT rfl rfl ?_
  refine R.move ?_
  refine R.gT rfl rfl ?_
  refine R.neq (b := false) rfl rfl (by decide) ?_
  refine R.pickF rfl ?_
  refine R.move ?_
  refine R.gT rfl rfl ?_
  refine R.move ?_
  refine R.gT rfl rfl ?_
  refine R.build build68 rfl ?_
  refine R.gT rfl rfl ?_
  refine R.build build68 rfl ?_
  refine R.gT rfl rfl ?_
  refine R.build build68 rfl ?_
  refine R.gT rfl rfl ?_
  refine R.buildSlice [.agg #[.int .i64 (2), .int .i64 (0), .int .i64 (2)], .agg #[.int .i64 (5), .int .i64 (0), .int .i64 (-1)], .agg #[.int .i64 (1), .int .i64 (1), .int .i64 (-1)]] Try.underlying62 t68 rfl rfl (by simp [Value.cells]) (by simp) nofun ?_
  intro b47 w10 hb47 hx10 hB47 hS47
  replace hb47 := Nat.le_trans hE.size hb47
  replace hM10 := hM10.ext hx10
  replace hS13 := hS13.ext hx10
  replace hS19 := hS19.ext hx10
  replace hS20 := hS20.ext hx10
  replace hM26 := hM26.ext hx10
  replace hS28 := hS28.ext hx10
  replace hB1 := hB1.ext hx10
  replace hE := hE.ext hx10
  refine R.gT rfl rfl ?_
  refine R.callE2 ent72 (same35t (ss := [(2, 0, 2), (5, 0, -1), (1, 1, -1)]) _ hS20.row (steps_of (ss := [(2, 0, 2), (5, 0, -1), (1, 1, -1)]) hS47 (by simp [cellsOf, Value.cells, stepsC]) rfl) (by decide)) rfl rfl nofun ?_
  rintro v48 w11 hx11 rfl
  replace hM10 := hM10.ext hx11
  replace hS13 := hS13.ext hx11
  replace hS19 := hS19.ext hx11
  replace hS20 := hS20.ext hx11
  replace hM26 := hM26.ext hx11
  replace hS28 := hS28.ext hx11
  replace hS47 := hS47.ext hx11
  replace hB1 := hB1.ext hx11
  replace hE := hE.ext hx11
  refine R.gT rfl rfl ?_
  refine R.not rfl ?_
  refine R.pickF rfl ?_
  refine R.move ?_
  refine R.gT rfl rfl ?_
  refine R.move ?_
  refine R.gT rfl rfl ?_
  refine R.neq (b := false) rfl rfl (by decide) ?_
  refine R.pickF rfl ?_
  refine R.nil ?_
  refine E.condF rfl ?_
  refine E.skip ?_
  refine E.seq ?_
  refine E.regionP rfl ?_
  refine R.buildSlice [.int .i64 7, .int .i64 5, .int .i64 1] Try.underlying35 t3 rfl rfl (by simp [Value.cells]) (by simp) nofun ?_
  intro b55 w12 hb55 hx12 hB55 hS55
  replace hb55 := Nat.le_trans hE.size hb55
  replace hM10 := hM10.ext hx12
  replace hS13 := hS13.ext hx12
  replace hS19 := hS19.ext hx12
  replace hS20 := hS20.ext hx12
  replace hM26 := hM26.ext hx12
  replace hS28 := hS28.ext hx12
  replace hS47 := hS47.ext hx12
  replace hB1 := hB1.ext hx12
  replace hE := hE.ext hx12
  refine R.assign ?_
  refine R.nil ?_
  refine E.seq ?_
  refine E.regionP rfl ?_
  refine R.loadA t24 hB1 rfl rfl rfl trivial ?_
  refine R.move ?_
  refine R.callE2 ent44 (bound35b _ hM10.mat (ints_of hS55 (by simp [cellsOf, Value.cells, ints]) rfl)) rfl rfl nofun ?_
  rintro v59 w13 hx13 rfl
  replace hM10 := hM10.ext hx13
  replace hS13 := hS13.ext hx13
  replace hS19 := hS19.ext hx13
  replace hS20 := hS20.ext hx13
  replace hM26 := hM26.ext hx13
  replace hS28 := hS28.ext hx13
  replace hS47 := hS47.ext hx13
  replace hS55 := hS55.ext hx13
  replace hB1 := hB1.ext hx13
  replace hE := hE.ext hx13
  refine R.move ?_
  refine R.extract rfl rfl ?_
  refine R.extract rfl rfl ?_
  refine R.assign ?_
  refine R.assign ?_
  refine R.nil ?_
  refine E.seq ?_
  refine E.regionP rfl ?_
  refine R.loadA t24 hB1 rfl rfl rfl trivial ?_
  refine R.move ?_
  refine R.callE2 ent45 (run35c _ hM10.mat (ints_of hS55 (by simp [cellsOf, Value.cells, ints]) rfl)) rfl rfl nofun ?_
  rintro v65 w14 hx14 ⟨u65, rfl, hS65, hf65⟩
  replace hM10 := hM10.ext hx14
  replace hS13 := hS13.ext hx14
  replace hS19 := hS19.ext hx14
  replace hS20 := hS20.ext hx14
  replace hM26 := hM26.ext hx14
  replace hS28 := hS28.ext hx14
  replace hS47 := hS47.ext hx14
  replace hS55 := hS55.ext hx14
  replace hB1 := hB1.ext hx14
  replace hE := hE.ext hx14
  refine R.move ?_
  refine R.extract rfl rfl ?_
  refine R.extract rfl rfl ?_
  refine R.assign ?_
  refine R.assign ?_
  refine R.nil ?_
  refine E.seq ?_
  refine E.regionP rfl ?_
  refine R.loadA t24 hB1 rfl rfl rfl trivial ?_
  refine R.move ?_
  refine R.move ?_
  refine R.callE3 ent46 (check35 _ hM10.mat (ints_of hS55 (by simp [cellsOf, Value.cells, ints]) rfl) hS65.row) rfl rfl rfl nofun ?_
  rintro v72 w15 hx15 rfl
  replace hM10 := hM10.ext hx15
  replace hS13 := hS13.ext hx15
  replace hS19 := hS19.ext hx15
  replace hS20 := hS20.ext hx15
  replace hM26 := hM26.ext hx15
  replace hS28 := hS28.ext hx15
  replace hS47 := hS47.ext hx15
  replace hS55 := hS55.ext hx15
  replace hS65 := hS65.ext hx15
  replace hB1 := hB1.ext hx15
  replace hE := hE.ext hx15
  refine R.move ?_
  refine R.extract rfl rfl ?_
  refine R.extract rfl rfl ?_
  refine R.assign ?_
  refine R.assign ?_
  refine R.nil ?_
  refine E.seq ?_
  refine E.regionP rfl ?_
  refine R.move ?_
  refine R.eql (b := true) rfl rfl (by decide) ?_
  refine R.move ?_
  refine R.gT rfl rfl ?_
  refine R.move ?_
  refine R.gT rfl rfl ?_
  refine R.eql (b := true) rfl rfl (by decide) ?_
  refine R.pickT rfl ?_
  refine R.move ?_
  refine R.gT rfl rfl ?_
  refine R.move ?_
  refine R.gT rfl rfl ?_
  refine R.move ?_
  refine R.gT rfl rfl ?_
  refine R.add rfl rfl (by decide) (by decide) ?_
  refine R.gT rfl rfl ?_
  refine R.move ?_
  refine R.gT rfl rfl ?_
  refine R.add rfl rfl (by decide) (by decide) ?_
  refine R.gT rfl rfl ?_
  refine R.eql (b := true) rfl rfl (by decide) ?_
  refine R.pickT rfl ?_
  refine R.move ?_
  refine R.gT rfl rfl ?_
  refine R.move ?_
  refine R.gT rfl rfl ?_
  refine R.build build68 rfl ?_
  refine R.gT rfl rfl ?_
  refine R.build build68 rfl ?_
  refine R.gT rfl rfl ?_
  refine R.build build68 rfl ?_
  refine R.gT rfl rfl ?_
  refine R.build build68 rfl ?_
  refine R.gT rfl rfl ?_
  refine R.build build68 rfl ?_
  refine R.gT rfl rfl ?_
  refine R.buildSlice [.agg #[.int .i64 (1), .int .i64 (1), .int .i64 (2)], .agg #[.int .i64 (7), .int .i64 (1), .int .i64 (-1)], .agg #[.int .i64 (2), .int .i64 (0), .int .i64 (1)], .agg #[.int .i64 (5), .int .i64 (0), .int .i64 (-1)], .agg #[.int .i64 (1), .int .i64 (2), .int .i64 (-1)]] Try.underlying62 t68 rfl rfl (by simp [Value.cells]) (by simp) nofun ?_
  intro b96 w16 hb96 hx16 hB96 hS96
  replace hb96 := Nat.le_trans hE.size hb96
  replace hM10 := hM10.ext hx16
  replace hS13 := hS13.ext hx16
  replace hS19 := hS19.ext hx16
  replace hS20 := hS20.ext hx16
  replace hM26 := hM26.ext hx16
  replace hS28 := hS28.ext hx16
  replace hS47 := hS47.ext hx16
  replace hS55 := hS55.ext hx16
  replace hS65 := hS65.ext hx16
  replace hB1 := hB1.ext hx16
  replace hE := hE.ext hx16
  refine R.gT rfl rfl ?_
  refine R.callE2 ent72 (same35t (ss := [(1, 1, 2), (7, 1, -1), (2, 0, 1), (5, 0, -1), (1, 2, -1)]) _ hS65.row (steps_of (ss := [(1, 1, 2), (7, 1, -1), (2, 0, 1), (5, 0, -1), (1, 2, -1)]) hS96 (by simp [cellsOf, Value.cells, stepsC]) rfl) (by decide)) rfl rfl nofun ?_
  rintro v97 w17 hx17 rfl
  replace hM10 := hM10.ext hx17
  replace hS13 := hS13.ext hx17
  replace hS19 := hS19.ext hx17
  replace hS20 := hS20.ext hx17
  replace hM26 := hM26.ext hx17
  replace hS28 := hS28.ext hx17
  replace hS47 := hS47.ext hx17
  replace hS55 := hS55.ext hx17
  replace hS65 := hS65.ext hx17
  replace hS96 := hS96.ext hx17
  replace hB1 := hB1.ext hx17
  replace hE := hE.ext hx17
  refine R.pickT rfl ?_
  refine R.assign ?_
  refine R.nil ?_
  refine E.ret ?_
  exact ret1 (.bool true) rfl rfl ⟨_, rfl, hE, rfl⟩
end Go.Proofs.Ytfdmndkoiheebaa
