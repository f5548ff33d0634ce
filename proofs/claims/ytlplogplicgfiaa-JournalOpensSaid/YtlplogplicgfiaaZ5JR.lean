import Derived.Test.YtlplogplicgfiaaZ5JQ
namespace Go.Proofs.Ytlplogplicgfiaa
open Go Go.RowKit
theorem DB.flip {p b : Nat} {vb vd : Value} (h : DB p vb vd b) : p = b ∨ vblk vb = some b ∨ vblk vd = some b := h.elim (fun e => .inl e.symm) .inr
theorem Blk.upD {w w' : World} {p b : Nat} {vb vd : Value} {d : Dk} {ty : TypeId} {cs : Array Value} (h : Blk w b ty cs) (u : Upd (DB p vb vd) w w') (hD : DM w p vb vd d) (hne : 25 ≠ ty ∧ 27 ≠ ty ∧ 4 ≠ ty) : Blk w' b ty cs := by
  refine h.up u (fun e => ?_)
  rcases e with rfl | e | e
  · exact hD.blk.ne h hne.1 rfl
  · obtain ⟨c, q⟩ := hD.bls.blk e; exact q.ne h hne.2.1 rfl
  · obtain ⟨c, q⟩ := hD.bds.blk e; exact q.ne h hne.2.2 rfl
theorem Sl.upD {w w' : World} {p k n : Nat} {vb vd v : Value} {d : Dk} {ty : TypeId} {cs : List Value} (h : Sl w ty k v n cs) (u : Upd (DB p vb vd) w w') (hD : DM w p vb vd d) (hne : 25 ≠ ty ∧ 27 ≠ ty ∧ 4 ≠ ty) : Sl w' ty k v n cs := by
  refine h.up u (fun b hb e => ?_)
  obtain ⟨c0, q0⟩ := h.blk hb
  rcases e with rfl | e | e
  · exact hD.blk.ne q0 hne.1 rfl
  · obtain ⟨c, q⟩ := hD.bls.blk e; exact q.ne q0 hne.2.1 rfl
  · obtain ⟨c, q⟩ := hD.bds.blk e; exact q.ne q0 hne.2.2 rfl
theorem placesP (w : World) {p n : Nat} {vb vd : Value} {d : Dk} (hD : DM w p vb vd d) (hn : d.n = n) :
    Calls Try.prog 43 #[.pointer (some ⟨p, 0, none⟩)] w (Ret fun r w' => Ext w w' ∧ r = .int .i64 ((n : Nat) : Int)) := by subst hn; exact places_ w hD
theorem JM.start {w : World} {pj pd life m : Nat} (h : Blk w pj 86 #[.pointer (some ⟨pd, 0, none⟩), .slice none 0 0, .int .i64 ((life : Nat) : Int), .int .i64 ((m : Nat) : Int), .bool (false)]) : JM w pj pd (.slice none 0 0) [] ⟨[], life, m, false⟩ :=
  ⟨h, Sl.nil _ _ _, rfl, fun i hi => by simp at hi⟩
theorem JM.setLive {w w' : World} {pj pd : Nat} {vl v : Value} {us us' : List Value} {j : Jn} {l : List Rc} (h : JM w pj pd vl us j) (u : Upd (one pj) w w') (hN : Blk w' pj 86 #[.pointer (some ⟨pd, 0, none⟩), v, .int .i64 (j.life : Nat), .int .i64 (j.mended : Nat), .bool j.down])
    (hS : Sl w 106 6 v l.length (recsC us' l)) (hl : us'.length = l.length) (hr : ∀ i, i < l.length → SU8s w (us'.getD i undef) (l.getD i Rc0).dat) : JM w' pj pd v us' ⟨l, j.life, j.mended, j.down⟩ :=
  ⟨hN, hS.upT u h.blk (by decide), hl, fun i hi => (hr i hi).upT u h.blk (by decide)⟩
theorem JM.setCell {w w' : World} {pj pd : Nat} {vl : Value} {us : List Value} {j : Jn} {m : Nat} {b : Bool} (h : JM w pj pd vl us j) (u : Upd (one pj) w w') (hN : Blk w' pj 86 #[.pointer (some ⟨pd, 0, none⟩), vl, .int .i64 (j.life : Nat), .int .i64 (m : Nat), .bool b]) : JM w' pj pd vl us ⟨j.live, j.life, m, b⟩ :=
  ⟨hN, h.lv.upT u h.blk (by decide), h.len, fun i hi => (h.rows i hi).upT u h.blk (by decide)⟩
theorem rows_cons {w : World} {u : Value} {us : List Value} {y : Rc} {l : List Rc} (h0 : SU8s w u y.dat) (hr : ∀ i, i < l.length → SU8s w (us.getD i undef) (l.getD i Rc0).dat) : ∀ i, i < (y :: l).length → SU8s w ((u :: us).getD i undef) ((y :: l).getD i Rc0).dat := by
  intro i hi
  cases i with
  | zero => exact h0
  | succ k => exact hr k (by simpa using hi)
def ORes (w w' : World) (r : Value) (pd : Nat) : Nat × Option Jn → Prop
  | (e, none) => r = .tuple #[.pointer none, .int .i64 ((e : Nat) : Int)]
  | (e, some j) => ∃ pj vl us, r = .tuple #[.pointer (some ⟨pj, 0, none⟩), .int .i64 ((e : Nat) : Int)] ∧ JM w' pj pd vl us j ∧ w.heap.size ≤ pj
theorem openL_0 {d : Dk} (h : d.n = 0) : openL d = (d, 2, none) := by unfold openL; rw [if_pos h]
theorem openL_rot {d : Dk} (h : d.n ≠ 0) (hc : openC d = none) : openL d = (d, 421, none) := by unfold openL; rw [if_neg h, hc]
theorem openL_full {d : Dk} {l : List Rc} (h : d.n ≠ 0) (hc : openC d = some l) (hl : (lastL d d.n).2 = 4294967295) : openL d = (d, 4, none) := by unfold openL; rw [if_neg h, hc]; simp only [if_pos hl]
theorem openL_pow {d d' : Dk} {l : List Rc} {m : Nat} (h : d.n ≠ 0) (hc : openC d = some l) (hl : (lastL d d.n).2 ≠ 4294967295) (hm : mendL (jobsL d.n l) d 0 = (d', m, false)) : openL d = (d', 420, none) := by unfold openL; rw [if_neg h, hc]; simp only [if_neg hl, hm]
theorem openL_ok {d d' : Dk} {l : List Rc} {m : Nat} (h : d.n ≠ 0) (hc : openC d = some l) (hl : (lastL d d.n).2 ≠ 4294967295) (hm : mendL (jobsL d.n l) d 0 = (d', m, true)) : openL d = (d', 0, some ⟨l, (lastL d d.n).2 + 1, m, false⟩) := by unfold openL; rw [if_neg h, hc]; simp only [if_neg hl, hm]
def restK (n : Nat) (y : Rc) (k : Nat) (rest : List (Nat × List Nat)) : List (Nat × List Nat) := (List.range' k (y.h.total - k)).flatMap (jobs2 n y) ++ rest
theorem jobsL_drop {n : Nat} {l : List Rc} {a : Nat} (h : a < l.length) : jobsL n (l.drop a) = restK n (l.getD a Rc0) 0 (jobsL n (l.drop (a + 1))) := by
  rw [List.drop_eq_getElem_cons h]
  have hg : l.getD a Rc0 = l[a] := by rw [List.getD_eq_getElem?_getD, List.getElem?_eq_getElem h]; rfl
  rw [hg]
  simp only [jobsL, List.flatMap_cons, restK, jobsR, Nat.sub_zero, List.range_eq_range']
theorem restK_end {n : Nat} {y : Rc} {k : Nat} {rest : List (Nat × List Nat)} (h : y.h.total ≤ k) : restK n y k rest = rest := by
  unfold restK; rw [show y.h.total - k = 0 by omega]; rfl
theorem restK_step {n : Nat} {y : Rc} {k : Nat} {rest : List (Nat × List Nat)} (h : k < y.h.total) : restK n y k rest = (jobs2 n y k).drop 0 ++ restK n y (k + 1) rest := by
  unfold restK
  obtain ⟨m, hm⟩ : ∃ m, y.h.total - k = m + 1 := ⟨y.h.total - k - 1, by omega⟩
  rw [hm, List.range'_succ, List.flatMap_cons, show y.h.total - (k + 1) = m by omega]
  simp
theorem jobs2_drop {n : Nat} {y : Rc} {k t : Nat} (h : t < 2) : (jobs2 n y k).drop t = ((y.at_ + k) % n + t * n, pcB y k) :: (jobs2 n y k).drop (t + 1) := by
  rcases (show t = 0 ∨ t = 1 by omega) with rfl | rfl <;> simp [jobs2]
theorem mendL_skip {i : Nat} {b : List Nat} {l : List (Nat × List Nat)} {d : Dk} {m : Nat} (h1 : (d.read ((i : Nat) : Int)).isSome = true) (h2 : blkO (d.read ((i : Nat) : Int)) = b) : mendL ((i, b) :: l) d m = mendL l d m := by
  have h : d.read ((i : Nat) : Int) = some b := by
    cases hr : d.read ((i : Nat) : Int) with
    | none => rw [hr] at h1; exact absurd h1 (by simp)
    | some x => rw [hr] at h2; simp only [blkO, Option.getD_some] at h2; rw [h2]
  simp only [mendL, if_pos h]
theorem mend_ne {i : Nat} {b : List Nat} {d : Dk} (h : (d.read ((i : Nat) : Int)).isSome = false ∨ blkO (d.read ((i : Nat) : Int)) ≠ b) : d.read ((i : Nat) : Int) ≠ some b := by
  intro e
  rw [e] at h
  simp [blkO] at h
theorem mendL_fail {i : Nat} {b : List Nat} {l : List (Nat × List Nat)} {d : Dk} {m : Nat} (h : (d.read ((i : Nat) : Int)).isSome = false ∨ blkO (d.read ((i : Nat) : Int)) ≠ b) (hw : (d.write ((i : Nat) : Int) b).2 = false) : mendL ((i, b) :: l) d m = ((d.write ((i : Nat) : Int) b).1, m, false) := by
  simp only [mendL, if_neg (mend_ne h), hw, Bool.false_eq_true, if_false]
theorem mendL_write {i : Nat} {b : List Nat} {l : List (Nat × List Nat)} {d : Dk} {m : Nat} (h : (d.read ((i : Nat) : Int)).isSome = false ∨ blkO (d.read ((i : Nat) : Int)) ≠ b) (hw : (d.write ((i : Nat) : Int) b).2 = true) : mendL ((i, b) :: l) d m = mendL l (d.write ((i : Nat) : Int) b).1 (m + 1) := by
  simp only [mendL, if_neg (mend_ne h), hw, if_true]
def MSt (L : List (Nat × List Nat)) (d : Dk) (m : Nat) (T : Dk × Nat × Bool) : Prop := mendL L d m = T ∧ m + L.length ≤ 168000
theorem MSt.lt {x : Nat × List Nat} {L : List (Nat × List Nat)} {d : Dk} {m : Nat} {T : Dk × Nat × Bool} (h : MSt (x :: L) d m T) : m < 168000 := by have := h.2; simp only [List.length_cons] at this; omega
theorem MSt.skip {i : Nat} {b : List Nat} {L : List (Nat × List Nat)} {d : Dk} {m : Nat} {T : Dk × Nat × Bool} (h : MSt ((i, b) :: L) d m T) (h1 : (d.read ((i : Nat) : Int)).isSome = true) (h2 : blkO (d.read ((i : Nat) : Int)) = b) : MSt L d m T :=
  ⟨by rw [← h.1, mendL_skip h1 h2], by have := h.2; simp only [List.length_cons] at this; omega⟩
theorem MSt.fail {i : Nat} {b : List Nat} {L : List (Nat × List Nat)} {d : Dk} {m : Nat} {T : Dk × Nat × Bool} (h : MSt ((i, b) :: L) d m T) (h1 : (d.read ((i : Nat) : Int)).isSome = false ∨ blkO (d.read ((i : Nat) : Int)) ≠ b) (hw : (d.write ((i : Nat) : Int) b).2 = false) : T = ((d.write ((i : Nat) : Int) b).1, m, false) := by
  rw [← h.1, mendL_fail h1 hw]
theorem MSt.write {i : Nat} {b : List Nat} {L : List (Nat × List Nat)} {d : Dk} {m : Nat} {T : Dk × Nat × Bool} (h : MSt ((i, b) :: L) d m T) (h1 : (d.read ((i : Nat) : Int)).isSome = false ∨ blkO (d.read ((i : Nat) : Int)) ≠ b) (hw : (d.write ((i : Nat) : Int) b).2 = true) : MSt L (d.write ((i : Nat) : Int) b).1 (m + 1) T :=
  ⟨by rw [← h.1, mendL_write h1 hw], by have := h.2; simp only [List.length_cons] at this; omega⟩
theorem jobsR_len (n : Nat) (y : Rc) : (jobsR n y).length = 2 * y.h.total := by
  unfold jobsR
  generalize y.h.total = t
  induction t with
  | zero => rfl
  | succ t ih => rw [List.range_succ, List.flatMap_append, List.length_append, ih]; simp [jobs2]; omega
theorem jobsL_len (n : Nat) : ∀ l : List Rc, (jobsL n l).length = 2 * totalL l
  | [] => rfl
  | y :: l => by
    have ih := jobsL_len n l
    simp only [jobsL, List.flatMap_cons, List.length_append] at ih ⊢
    rw [ih, jobsR_len, totalL_cons]; omega
theorem jobs_len {d : Dk} {x : Rc} {l : List Rc} (h : Chn d x l) : (jobsL d.n l).length ≤ 168000 := by
  rw [jobsL_len]
  have := h.free
  have := d.n_le
  unfold freeI at *
  omega
theorem bld86_0_2 {x0 x2 : Value} (hx0 : x0.oneCell' = true) (hx2 : x2.oneCell' = true) (w : World) : (Instr.build 86 #[(0, x0), (2, x2)]).run Try.prog w = .ok (.agg #[x0, (.slice none 0 0), x2, (.int .i64 0), (.bool false)]) w := by
  simp [Instr.build, t86.zero, underlying, Try.underlying86, Instr.fill, cells_agg, t3.sizeOf, t32.sizeOf, cells_one hx0, cells_one hx2]
set_option maxHeartbeats 1600000 in
theorem open_ (w : World) {b900 : Nat} {vb vd : Value} {d : Dk} (hD : DM w b900 vb vd d) (hpw0 : d.pw ≤ 9223372036854775807) :
    Calls Try.prog 39 #[.pointer (some ⟨b900, 0, none⟩)] w (Ret fun r w' => Upd (DB b900 vb vd) w w' ∧ DM w' b900 vb vd (openL d).1 ∧ ORes w w' r b900 (openL d).2) := by
  have hnl := d.n_le
  refine calls_E (args := [.pointer (some ⟨b900, 0, none⟩)]) 149 Try.func39 rfl rfl (by simp) ?_
  have hE : Upd (DB b900 vb vd) w w := Upd.refl w
  refine E.seq ?_
  refine E.regionP rfl ?_
  refine R.assign ?_
  refine R.assign ?_
  refine R.nil ?_
  refine E.seq ?_
  refine E.seq ?_
  refine E.regionP rfl ?_
  refine R.move ?_
  refine R.callE1 ent43 (places_ _ hD) rfl nofun ?_
  rintro v18 w1 hx1 rfl
  replace hD := hD.ext hx1
  replace hE := hE.ext hx1
  refine R.eql (b := decide ((((d.n : Nat) : Int)) = (((0 : Nat) : Int)))) rfl rfl rfl ?_
  refine R.nil ?_
  refine E.cond (b := decide ((((d.n : Nat) : Int)) = (((0 : Nat) : Int)))) rfl (fun hc19 => ?_) (fun hc19 => ?_)
  · replace hc19 := dT hc19
    have hn0 : d.n = 0 := by omega
    refine E.seq ?_
    refine E.regionP rfl ?_
    refine R.assign ?_
    refine R.assign ?_
    refine R.nil ?_
    refine E.ret ?_
    refine ret2 (.pointer none) (.int .i64 ((2 : Nat) : Int)) rfl rfl rfl ⟨_, rfl, ?_⟩
    refine ⟨hE, ?_⟩
    rw [openL_0 hn0]
    exact ⟨hD, rfl⟩
  · replace hc19 := dF hc19
    have hn0 : d.n ≠ 0 := by omega
    have hPL := lastL_P hD.ok (Nat.le_refl d.n)
    have hlf := hPL.2
    have hCs := Chn.start hPL.1
    refine E.skip ?_
    refine E.seq ?_
    refine E.regionP rfl ?_
    refine R.move ?_
    refine R.callE1 ent57 (last_ _ hD) rfl nofun ?_
    rintro v22 w2 hx2 ⟨u22, rfl, hS22, hF22⟩
    replace hF22 := hF22.mono hE.size
    replace hD := hD.ext hx2
    replace hE := hE.ext hx2
    refine R.move ?_
    refine R.extract rfl rfl ?_
    refine R.extract rfl rfl ?_
    refine R.alloc t106 nofun ?_
    intro b4 w3 hb4 hx3 hB4
    replace hb4 := Nat.le_trans hE.size hb4
    replace hD := hD.ext hx3
    replace hS22 := hS22.ext hx3
    replace hE := hE.ext hx3
    replace hB4 : Blk _ b4 106 #[.int .i64 ((0 : Nat) : Int), .int .i64 ((0 : Nat) : Int), .int .i64 ((0 : Nat) : Int), .int .i64 ((0 : Nat) : Int), .int .i64 ((0 : Nat) : Int), .slice none 0 0] := hB4
    refine R.storeA t106 hB4 rfl rfl rfl rfl (ones6 rfl rfl rfl rfl rfl hS22.one) nofun ?_
    intro w4 hU4 hs4 hN4
    replace hD := hD.upT hU4 hB4 (by decide)
    replace hS22 := hS22.upT hU4 hB4 (by decide)
    replace hE := hE.own hU4 hb4
    replace hB4 : Blk _ b4 106 #[.int .i64 (((lastL d d.n).1.h.total : Nat) : Int), .int .i64 (((lastL d d.n).1.h.number : Nat) : Int), .int .i64 (((lastL d d.n).1.h.life : Nat) : Int), .int .i64 (((lastL d d.n).1.h.first : Nat) : Int), .int .i64 (((lastL d d.n).1.at_ : Nat) : Int), u22] := hN4
    clear hN4
    refine R.assign ?_
    refine R.nil ?_
    refine E.seq ?_
    refine E.regionP rfl ?_
    refine R.move ?_
    refine R.move ?_
    refine R.addN (m := ((lastL d d.n).2)) (n := 1) rfl rfl (by omega) ?_
    refine R.build (bld86_0_2 rfl rfl) rfl ?_
    refine R.box rfl nofun ?_
    intro b29 w5 hb29 hx5 hB29
    replace hb29 := Nat.le_trans hE.size hb29
    replace hD := hD.ext hx5
    replace hS22 := hS22.ext hx5
    replace hB4 := hB4.ext hx5
    replace hE := hE.ext hx5
    replace hB29 : Blk _ b29 86 #[.pointer (some ⟨b900, 0, none⟩), .slice none 0 0, .int .i64 ((((lastL d d.n).2) + 1 : Nat) : Int), .int .i64 ((0 : Nat) : Int), .bool (false)] := hB29
    refine R.assign ?_
    have hJ : JM _ b29 b900 (.slice none 0 0) [] ⟨[], (lastL d d.n).2 + 1, 0, false⟩ := JM.start hB29
    refine R.nil ?_
    refine E.seq ?_
    refine E.seq ?_
    refine E.forget [(0, .pointer (some ⟨b900, 0, none⟩)), (4, .pointer (some ⟨b4, 0, none⟩)), (5, .int .i64 (((lastL d d.n).2 : Nat) : Int)), (6, .pointer (some ⟨b29, 0, none⟩))] ⟨rfl, rfl, rfl, rfl, trivial⟩ (fun e => ?_)
    refine E.regionP rfl ?_
    refine R.fld fa106_0 rfl ?_
    refine R.fld fa103_1 rfl ?_
    refine R.loadB t3 hB4 rfl rfl rfl trivial ?_
    refine R.gtr (b := decide ((((0 : Nat) : Int)) < ((((lastL d d.n).1.h.number : Nat) : Int)))) rfl rfl rfl ?_
    refine R.nil ?_
    refine E.cutM (fun e wr => ∃ (vl : Value) (us : List Value) (l : List Rc), chainS d (lastL d d.n).1 l = openC d ∧ Chn d (lastL d d.n).1 l ∧ DM wr b900 vb vd d ∧ SU8s wr u22 (lastL d d.n).1.dat ∧ JM wr b29 b900 vl us ⟨l, (lastL d d.n).2 + 1, 0, false⟩ ∧ Blk wr b4 106 #[.int .i64 (((lastL d d.n).1.h.total : Nat) : Int), .int .i64 (((lastL d d.n).1.h.number : Nat) : Int), .int .i64 (((lastL d d.n).1.h.life : Nat) : Int), .int .i64 (((lastL d d.n).1.h.first : Nat) : Int), .int .i64 (((lastL d d.n).1.at_ : Nat) : Int), u22] ∧ Upd (DB b900 vb vd) w wr ∧ Has e [(0, .pointer (some ⟨b900, 0, none⟩)), (4, .pointer (some ⟨b4, 0, none⟩)), (5, .int .i64 (((lastL d d.n).2 : Nat) : Int)), (6, .pointer (some ⟨b29, 0, none⟩))]) ?_ ?_
    · refine E.cond (b := decide ((((0 : Nat) : Int)) < ((((lastL d d.n).1.h.number : Nat) : Int)))) rfl (fun hc33 => ?_) (fun hc33 => ?_)
      · replace hc33 := dT hc33
        refine E.regionP rfl ?_
        refine R.move ?_
        refine R.loadA t106 hB4 rfl rfl rfl trivial ?_
        refine R.buildSlice [.agg #[.int .i64 (((lastL d d.n).1.h.total : Nat) : Int), .int .i64 (((lastL d d.n).1.h.number : Nat) : Int), .int .i64 (((lastL d d.n).1.h.life : Nat) : Int), .int .i64 (((lastL d d.n).1.h.first : Nat) : Int), .int .i64 (((lastL d d.n).1.at_ : Nat) : Int), u22]] Try.underlying84 t106 rfl rfl (by simp [Value.cells]) (by simp) nofun ?_
        intro b36 w6 hb36 hx6 hB36 hS36
        have hn_hJ_36 := hJ.new hb36
        have neS4_36 : b4 ≠ b36 := by have := hB4.lt; omega
        replace hb36 := Nat.le_trans hE.size hb36
        replace hD := hD.ext hx6
        replace hS22 := hS22.ext hx6
        replace hJ := hJ.ext hx6
        replace hB4 := hB4.ext hx6
        replace hE := hE.ext hx6
        refine R.nilCheck rfl ?_
        refine R.fld fa86_1 rfl ?_
        refine R.store t84 hJ.blk rfl rfl rfl (by simp) nofun ?_
        intro w7 hU7 hs7 hN7
        have hJ1 := hJ
        have hS36' : Sl _ 106 6 _ 1 (recsC [u22] [(lastL d d.n).1]) := hS36
        replace hJ : JM _ b29 b900 (.slice (some ⟨b36, 0, none⟩) 1 1) [u22] ⟨[(lastL d d.n).1], (lastL d d.n).2 + 1, 0, false⟩ := hJ.setLive (v := .slice (some ⟨b36, 0, none⟩) 1 1) (l := [(lastL d d.n).1]) (us' := [u22]) hU7 hN7 hS36' rfl (fun i hi => by have e9 : i = 0 := (by simpa using hi); subst e9; exact hS22)
        replace hD := hD.upT hU7 hJ1.blk (by decide)
        replace hS22 := hS22.upT hU7 hJ1.blk (by decide)
        replace hB4 := hB4.upT hU7 hJ1.blk (by decide)
        replace hE := hE.own hU7 hb29
        refine R.nil ?_
        exact ⟨_, _, [(lastL d d.n).1], (by unfold openC; rw [if_neg (by omega)]), (by rw [if_neg (by omega)] at hCs; exact hCs), hD, hS22, hJ, hB4, hE, rfl, rfl, rfl, rfl, trivial⟩
      · replace hc33 := dF hc33
        refine E.skip ?_
        exact ⟨_, _, [], (by unfold openC; rw [if_pos (by omega)]), (by rw [if_pos (by omega)] at hCs; exact hCs), hD, hS22, hJ, hB4, hE, rfl, rfl, rfl, rfl, trivial⟩
    · rintro e wr ⟨vl, us, l, hS, hC, hD, hS22, hJ, hB4, hE, hH⟩
      obtain ⟨e, rfl⟩ := hH.ex
      clear hH
      refine E.seq ?_
      refine E.cutM (fun e wr => ∃ (vl : Value) (us : List Value) (l : List Rc), openC d = some l ∧ Chn d (lastL d d.n).1 l ∧ DM wr b900 vb vd d ∧ SU8s wr u22 (lastL d d.n).1.dat ∧ JM wr b29 b900 vl us ⟨l, (lastL d d.n).2 + 1, 0, false⟩ ∧ Blk wr b4 106 #[.int .i64 (((lastL d d.n).1.h.total : Nat) : Int), .int .i64 (((lastL d d.n).1.h.number : Nat) : Int), .int .i64 (((lastL d d.n).1.h.life : Nat) : Int), .int .i64 (((lastL d d.n).1.h.first : Nat) : Int), .int .i64 (((lastL d d.n).1.at_ : Nat) : Int), u22] ∧ Upd (DB b900 vb vd) w wr ∧ Has e [(0, .pointer (some ⟨b900, 0, none⟩)), (5, .int .i64 (((lastL d d.n).2 : Nat) : Int)), (6, .pointer (some ⟨b29, 0, none⟩))]) ?_ ?_
      · refine E.block ?_
        refine E.loop (fun n e wr => ∃ (vl : Value) (us : List Value) (l : List Rc), n = (l.getD 0 Rc0).h.number - (lastL d d.n).1.h.first ∧ chainS d (lastL d d.n).1 l = openC d ∧ Chn d (lastL d d.n).1 l ∧ DM wr b900 vb vd d ∧ SU8s wr u22 (lastL d d.n).1.dat ∧ JM wr b29 b900 vl us ⟨l, (lastL d d.n).2 + 1, 0, false⟩ ∧ Blk wr b4 106 #[.int .i64 (((lastL d d.n).1.h.total : Nat) : Int), .int .i64 (((lastL d d.n).1.h.number : Nat) : Int), .int .i64 (((lastL d d.n).1.h.life : Nat) : Int), .int .i64 (((lastL d d.n).1.h.first : Nat) : Int), .int .i64 (((lastL d d.n).1.at_ : Nat) : Int), u22] ∧ Upd (DB b900 vb vd) w wr ∧ Has e [(0, .pointer (some ⟨b900, 0, none⟩)), (4, .pointer (some ⟨b4, 0, none⟩)), (5, .int .i64 (((lastL d d.n).2 : Nat) : Int)), (6, .pointer (some ⟨b29, 0, none⟩))]) ((l.getD 0 Rc0).h.number - (lastL d d.n).1.h.first) ?_ ?_
        · exact ⟨vl, us, l, rfl, hS, hC, hD, hS22, hJ, hB4, hE, rfl, rfl, rfl, rfl, trivial⟩
        · rintro n e wr ⟨vl, us, l, rfl, hS, hC, hD, hS22, hJ, hB4, hE, hH⟩
          obtain ⟨e, rfl⟩ := hH.ex
          clear hH
          refine E.seq ?_
          refine E.seq ?_
          refine E.regionW allS [] mixed rfl (by kernel_rfl) ?_
          intro w8 hx8 hh8
          replace hD := hD.ext hx8
          replace hS22 := hS22.ext hx8
          replace hJ := hJ.ext hx8
          replace hB4 := hB4.ext hx8
          replace hE := hE.ext hx8
          refine R.fld fa106_0 rfl ?_
          refine R.fld fa103_1 rfl ?_
          refine R.loadB t3 hB4 rfl rfl rfl trivial ?_
          refine R.gtr (b := decide ((((0 : Nat) : Int)) < ((((lastL d d.n).1.h.number : Nat) : Int)))) rfl rfl rfl ?_
          refine R.move ?_
          have hg43 := Bool.eq_false_or_eq_true (decide ((((0 : Nat) : Int)) < ((((lastL d d.n).1.h.number : Nat) : Int))))
          rcases hg43 with hg43 | hg43
          · have hg43q := hg43
            replace hg43 := dT hg43
            have hl0 := hC.ne (by omega)
            have hc0 := hC.rc 0 hl0
            refine R.gT rfl (congrArg Value.bool hg43q) ?_
            refine R.move ?_
            refine R.gT rfl (congrArg Value.bool hg43q) ?_
            refine R.nilCheck rfl ?_
            refine R.gT rfl (congrArg Value.bool hg43q) ?_
            refine R.fld fa86_1 rfl ?_
            refine R.gT rfl (congrArg Value.bool hg43q) ?_
            refine R.loadB t84 hJ.blk rfl rfl rfl trivial ?_
            refine R.gT rfl (congrArg Value.bool hg43q) ?_
            refine R.ix (m := 0) Try.underlying84 t106 (by decide) (show Sl _ 106 6 vl l.length (recsC us l) from hJ.lv).row rfl rfl (by omega) ?_
            refine R.gT rfl (congrArg Value.bool hg43q) ?_
            refine R.fldE fa106_0 (show Sl _ 106 6 vl l.length (recsC us l) from hJ.lv).row (by have e := recsC_len (l := l) hJ.len; show _ < (recsC us l).length; omega) rfl ?_
            refine R.gT rfl (congrArg Value.bool hg43q) ?_
            refine R.fldE fa103_1 (show Sl _ 106 6 vl l.length (recsC us l) from hJ.lv).row (by have e := recsC_len (l := l) hJ.len; show _ < (recsC us l).length; omega) rfl ?_
            refine R.gT rfl (congrArg Value.bool hg43q) ?_
            refine R.load (u := .int .i64 (((l.getD 0 Rc0).h.number : Nat) : Int)) t3 (show Sl _ 106 6 vl l.length (recsC us l) from hJ.lv).row rfl (recs_cell (l := l) hJ.len (by omega) 1 (by decide)) rfl (fun _ _ => trivial) ?_
            refine R.gT rfl (congrArg Value.bool hg43q) ?_
            refine R.fld fa106_0 rfl ?_
            refine R.gT rfl (congrArg Value.bool hg43q) ?_
            refine R.fld fa103_3 rfl ?_
            refine R.gT rfl (congrArg Value.bool hg43q) ?_
            refine R.loadB t3 hB4 rfl rfl rfl trivial ?_
            refine R.gT rfl (congrArg Value.bool hg43q) ?_
            refine R.gtr (b := decide (((((lastL d d.n).1.h.first : Nat) : Int)) < ((((l.getD 0 Rc0).h.number : Nat) : Int)))) rfl rfl rfl ?_
            refine R.pickT (congrArg Value.bool hg43q) ?_
            refine R.nil ?_
            refine E.cond (b := decide (((((lastL d d.n).1.h.first : Nat) : Int)) < ((((l.getD 0 Rc0).h.number : Nat) : Int)))) rfl (fun hc56 => ?_) (fun hc56 => ?_)
            · replace hc56 := dT hc56
              
              refine E.skip ?_
              refine E.block ?_
              refine E.seq ?_
              refine E.forget [(0, .pointer (some ⟨b900, 0, none⟩)), (4, .pointer (some ⟨b4, 0, none⟩)), (5, .int .i64 (((lastL d d.n).2 : Nat) : Int)), (6, .pointer (some ⟨b29, 0, none⟩))] ⟨rfl, rfl, rfl, rfl, trivial⟩ (fun e => ?_)
              refine E.regionP rfl ?_
              refine R.move ?_
              refine R.move ?_
              refine R.nilCheck rfl ?_
              refine R.fld fa86_1 rfl ?_
              refine R.loadB t84 hJ.blk rfl rfl rfl trivial ?_
              refine R.ix (m := 0) Try.underlying84 t106 (by decide) (show Sl _ 106 6 vl l.length (recsC us l) from hJ.lv).row rfl rfl (by omega) ?_
              refine R.loadE t106 (by decide) (show Sl _ 106 6 vl l.length (recsC us l) from hJ.lv).row rfl (recs_take (l := l) hJ.len (by omega)) rfl rfl (fun _ _ => trivial) ?_
              refine R.callE2 ent58 (before_ _ hD (by omega) (by have := hc0.at_; omega) (by have := hc0.num; have := hc0.first; omega) (by have := hc0.numb; omega)) rfl rfl nofun ?_
              rintro v65 w9 hx9 hT65
              have hE0 := hE
              replace hD := hD.ext hx9
              replace hS22 := hS22.ext hx9
              replace hJ := hJ.ext hx9
              replace hB4 := hB4.ext hx9
              replace hE := hE.ext hx9
              have hk65 := optCases (beforeL d ((l.getD 0 Rc0).at_) ((l.getD 0 Rc0).h.number))
              rcases hk65 with hk65 | ⟨y65, hk65⟩
              · rw [hk65] at hT65
                replace hT65 : _ = Value.tuple _ := hT65
                subst hT65
                refine R.move ?_
                refine R.extract rfl rfl ?_
                refine R.extract rfl rfl ?_
                refine R.alloc t106 nofun ?_
                intro b7 w10 hb7 hx10 hB7
                have ne4_7 : b4 ≠ b7 := by have := hB4.lt; omega
                have hn_hJ_7 := hJ.new hb7
                replace hb7 := Nat.le_trans hE.size hb7
                replace hD := hD.ext hx10
                replace hS22 := hS22.ext hx10
                replace hJ := hJ.ext hx10
                replace hB4 := hB4.ext hx10
                replace hE := hE.ext hx10
                replace hB7 : Blk _ b7 106 #[.int .i64 ((0 : Nat) : Int), .int .i64 ((0 : Nat) : Int), .int .i64 ((0 : Nat) : Int), .int .i64 ((0 : Nat) : Int), .int .i64 ((0 : Nat) : Int), .slice none 0 0] := hB7
                refine R.storeA t106 hB7 rfl rfl rfl rfl (ones6 rfl rfl rfl rfl rfl rfl) nofun ?_
                intro w11 hU11 hs11 hN11
                replace hD := hD.upT hU11 hB7 (by decide)
                replace hS22 := hS22.upT hU11 hB7 (by decide)
                replace hJ := hJ.upN hU11 hn_hJ_7
                replace hB4 := hB4.up hU11 (fun h => ne4_7 h)
                replace hE := hE.own hU11 hb7
                replace hB7 : Blk _ b7 106 #[.int .i64 ((0 : Nat) : Int), .int .i64 ((0 : Nat) : Int), .int .i64 ((0 : Nat) : Int), .int .i64 ((0 : Nat) : Int), .int .i64 ((0 : Nat) : Int), .slice none 0 0] := hN11
                clear hN11
                refine R.assign ?_
                refine R.nil ?_
                refine E.seq ?_
                refine E.seq ?_
                refine E.forget [(0, .pointer (some ⟨b900, 0, none⟩)), (4, .pointer (some ⟨b4, 0, none⟩)), (5, .int .i64 (((lastL d d.n).2 : Nat) : Int)), (6, .pointer (some ⟨b29, 0, none⟩)), (7, .pointer (some ⟨b7, 0, none⟩)), (8, .bool (false))] ⟨rfl, rfl, rfl, rfl, rfl, rfl, trivial⟩ (fun e => ?_)
                refine E.regionP rfl ?_
                refine R.move ?_
                refine R.not rfl ?_
                refine R.nil ?_
                refine E.condT rfl ?_
                refine E.seq ?_
                refine E.regionP rfl ?_
                refine R.assign ?_
                refine R.assign ?_
                refine R.nil ?_
                refine E.ret ?_
                refine ret2 (.pointer none) (.int .i64 ((421 : Nat) : Int)) rfl rfl rfl ⟨_, rfl, ?_⟩
                refine ⟨hE, ?_⟩
                rw [openL_rot hn0 (by rw [← hS]; exact chainS_rot (by omega) (by omega) hk65)]
                exact ⟨hD, rfl⟩
              · rw [hk65] at hT65
                obtain ⟨u65, rfl, hS65, hF65⟩ := hT65
                replace hF65 := hF65.mono hE0.size
                have hyP := beforeL_P hD.ok (by omega) hk65
                refine R.move ?_
                refine R.extract rfl rfl ?_
                refine R.extract rfl rfl ?_
                refine R.alloc t106 nofun ?_
                intro b7 w12 hb7 hx12 hB7
                have ne4_7 : b4 ≠ b7 := by have := hB4.lt; omega
                have hn_hJ_7 := hJ.new hb7
                replace hb7 := Nat.le_trans hE.size hb7
                replace hD := hD.ext hx12
                replace hS22 := hS22.ext hx12
                replace hJ := hJ.ext hx12
                replace hS65 := hS65.ext hx12
                replace hB4 := hB4.ext hx12
                replace hE := hE.ext hx12
                replace hB7 : Blk _ b7 106 #[.int .i64 ((0 : Nat) : Int), .int .i64 ((0 : Nat) : Int), .int .i64 ((0 : Nat) : Int), .int .i64 ((0 : Nat) : Int), .int .i64 ((0 : Nat) : Int), .slice none 0 0] := hB7
                refine R.storeA t106 hB7 rfl rfl rfl rfl (ones6 rfl rfl rfl rfl rfl hS65.one) nofun ?_
                intro w13 hU13 hs13 hN13
                replace hD := hD.upT hU13 hB7 (by decide)
                replace hS22 := hS22.upT hU13 hB7 (by decide)
                replace hJ := hJ.upN hU13 hn_hJ_7
                replace hS65 := hS65.upT hU13 hB7 (by decide)
                replace hB4 := hB4.up hU13 (fun h => ne4_7 h)
                replace hE := hE.own hU13 hb7
                replace hB7 : Blk _ b7 106 #[.int .i64 ((y65.h.total : Nat) : Int), .int .i64 ((y65.h.number : Nat) : Int), .int .i64 ((y65.h.life : Nat) : Int), .int .i64 ((y65.h.first : Nat) : Int), .int .i64 ((y65.at_ : Nat) : Int), u65] := hN13
                clear hN13
                refine R.assign ?_
                refine R.nil ?_
                refine E.seq ?_
                refine E.seq ?_
                refine E.forget [(0, .pointer (some ⟨b900, 0, none⟩)), (4, .pointer (some ⟨b4, 0, none⟩)), (5, .int .i64 (((lastL d d.n).2 : Nat) : Int)), (6, .pointer (some ⟨b29, 0, none⟩)), (7, .pointer (some ⟨b7, 0, none⟩)), (8, .bool (true))] ⟨rfl, rfl, rfl, rfl, rfl, rfl, trivial⟩ (fun e => ?_)
                refine E.regionP rfl ?_
                refine R.move ?_
                refine R.not rfl ?_
                refine R.nil ?_
                refine E.condF rfl ?_
                refine E.skip ?_
                refine E.seq ?_
                refine E.regionW (fun c x => x < w13.heap.size ∧ (c = false → x ≠ b29)) [76]  mixed rfl (by kernel_rfl) ?_
                intro w14 hx14 hh14
                replace hD := hD.ext hx14
                replace hS22 := hS22.ext hx14
                replace hJ := hJ.ext hx14
                replace hS65 := hS65.ext hx14
                replace hB4 := hB4.ext hx14
                replace hB7 := hB7.ext hx14
                replace hE := hE.ext hx14
                have hEs : Ext w14 w14 := Upd.refl _
                have hS0 := hx14.size
                have hSB : ∀ b, b < w14.heap.size → b < w13.heap.size ∧ (true = false → (fun x => x ≠ b29) b) := fun b hb => ⟨by rw [hh14] at hb; exact hb, nofun⟩
                have hSA : ∀ b, b < w14.heap.size → (fun x => x ≠ b29) b → b < w13.heap.size ∧ (false = false → (fun x => x ≠ b29) b) := fun b hb h => ⟨by rw [hh14] at hb; exact hb, fun _ => h⟩
                have hDs := hD
                have hS22s := hS22
                have hJs := hJ
                have hS65s := hS65
                have hB4s := hB4
                have hB7s := hB7
                refine R.move ?_
                refine R.loadA t106 hB7 rfl rfl rfl (hSA b7 hB7s.lt (hB7s.ne hJs.blk (by decide))) ?_
                refine R.buildSlice [.agg #[.int .i64 ((y65.h.total : Nat) : Int), .int .i64 ((y65.h.number : Nat) : Int), .int .i64 ((y65.h.life : Nat) : Int), .int .i64 ((y65.h.first : Nat) : Int), .int .i64 ((y65.at_ : Nat) : Int), u65]] Try.underlying84 t106 rfl rfl (by simp [Value.cells]) (by simp) (fun _ _ _ hb => Nat.lt_of_lt_of_le hb.1 (Nat.le_trans hS0 hEs.size)) ?_
                intro b72 w15 hb72 hx15 hB72 hS72
                have hn_hJ_72 := hJ.new hb72
                have neS4_72 : b4 ≠ b72 := by have := hB4.lt; omega
                have neS7_72 : b7 ≠ b72 := by have := hB7.lt; omega
                have hnb72 := Nat.le_trans (Nat.le_trans hS0 hEs.size) hb72
                replace hb72 := Nat.le_trans hE.size hb72
                replace hD := hD.ext hx15
                replace hS22 := hS22.ext hx15
                replace hJ := hJ.ext hx15
                replace hS65 := hS65.ext hx15
                replace hB4 := hB4.ext hx15
                replace hB7 := hB7.ext hx15
                replace hE := hE.ext hx15
                replace hEs := hEs.ext hx15
                refine R.move ?_
                refine R.nilCheck rfl ?_
                refine R.fld fa86_1 rfl ?_
                refine R.loadB t84 hJ.blk rfl rfl rfl (hSB b29 hJs.blk.lt) ?_
                refine R.append Try.underlying84 Try.underlying84 t106 (by decide) rfl hS72 (show Row _ 6 vl l.length (recsC us l) from hJ.lv.row) (recs_one (fun u hu => by obtain ⟨i, hi, rfl⟩ := List.mem_iff_getElem.1 hu; have h9 := hJ.rows i (by have := hJ.len; omega); rw [List.getD_eq_getElem?_getD, List.getElem?_eq_getElem hi] at h9; exact h9.one)) rfl rfl (by have := hC.len; have := d.n_le; simp only [List.length_cons, List.length_nil]; omega) (by have := hC.len; have := d.n_le; simp only [List.length_cons, List.length_nil]; omega) (fun _ b hb => ⟨Nat.lt_of_lt_of_le hb.1 (Nat.le_trans hS0 hEs.size), fun e => by simp [vblk] at e; have h1 := hb.1; omega⟩) ?_
                intro v77 w16 hU16 hS77 hd16
                have hF77 := Fresh.app hE (fun b hb => by simp [vblk] at hb; omega) hd16
                replace hD := hD.upS hU16 hS72 (by decide)
                replace hS22 := hS22.upS hU16 hS72 (by decide)
                replace hJ := hJ.up hU16 (fun b e => by have e1 : b72 = b := Option.some.inj e; rw [← e1]; exact hn_hJ_72)
                replace hS65 := hS65.upS hU16 hS72 (by decide)
                replace hB4 := hB4.up hU16 (fun e => neS4_72 (Option.some.inj e).symm)
                replace hB7 := hB7.up hU16 (fun e => neS7_72 (Option.some.inj e).symm)
                replace hE := hE.app hU16 (fun b hb => by simp [vblk] at hb; omega)
                refine R.nilCheck rfl ?_
                refine R.fld fa86_1 rfl ?_
                refine R.store t84 hJ.blk rfl rfl hS77.one (by simp) (fun _ h => h.2 rfl rfl) ?_
                intro w17 hU17 hs17 hN17
                have hJ1 := hJ
                have hS77' : Sl w16 106 6 v77 (y65 :: l).length (recsC (u65 :: us) (y65 :: l)) := by rw [List.length_cons, Nat.add_comm]; exact hS77
                replace hJ : JM _ b29 b900 v77 (u65 :: us) ⟨(y65 :: l), (lastL d d.n).2 + 1, 0, false⟩ := hJ.setLive (v := v77) (l := y65 :: l) (us' := u65 :: us) hU17 hN17 hS77' (by simp only [List.length_cons]; rw [hJ1.len]) (rows_cons hS65 hJ1.rows)
                replace hD := hD.upT hU17 hJ1.blk (by decide)
                replace hS22 := hS22.upT hU17 hJ1.blk (by decide)
                replace hS65 := hS65.upT hU17 hJ1.blk (by decide)
                replace hB4 := hB4.upT hU17 hJ1.blk (by decide)
                replace hB7 := hB7.upT hU17 hJ1.blk (by decide)
                replace hE := hE.own hU17 hb29
                refine R.nil ?_
                refine E.seq ?_
                refine E.forget [(0, .pointer (some ⟨b900, 0, none⟩)), (4, .pointer (some ⟨b4, 0, none⟩)), (5, .int .i64 (((lastL d d.n).2 : Nat) : Int)), (6, .pointer (some ⟨b29, 0, none⟩))] ⟨rfl, rfl, rfl, rfl, trivial⟩ (fun e => ?_)
                refine E.regionP rfl ?_
                refine R.move ?_
                refine R.callE1 ent52 (free_ _ hD hJ ((hC.cons' (by omega) hyP.1 hyP.2).ok (life := (lastL d d.n).2 + 1) (m := 0) (b := false) (by omega))) rfl nofun ?_
                rintro v81 w18 hx18 rfl
                replace hD := hD.ext hx18
                replace hS22 := hS22.ext hx18
                replace hJ := hJ.ext hx18
                replace hB4 := hB4.ext hx18
                replace hB7 := hB7.ext hx18
                replace hE := hE.ext hx18
                refine R.lss (b := decide (((freeI d.n (y65 :: l))) < (((0 : Nat) : Int)))) rfl rfl rfl ?_
                refine R.nil ?_
                refine E.cond (b := decide (((freeI d.n (y65 :: l))) < (((0 : Nat) : Int)))) rfl (fun hc82 => ?_) (fun hc82 => ?_)
                · replace hc82 := dT hc82
                  refine E.seq ?_
                  refine E.regionP rfl ?_
                  refine R.assign ?_
                  refine R.assign ?_
                  refine R.nil ?_
                  refine E.ret ?_
                  refine ret2 (.pointer none) (.int .i64 ((421 : Nat) : Int)) rfl rfl rfl ⟨_, rfl, ?_⟩
                  refine ⟨hE, ?_⟩
                  rw [openL_rot hn0 (by rw [← hS]; exact chainS_full (by omega) (by omega) hk65 hc82)]
                  exact ⟨hD, rfl⟩
                · replace hc82 := dF hc82
                  refine E.skip ?_
                  exact ⟨_, by have := hyP.2; show y65.h.number - _ < _; omega, v77, (u65 :: us), (y65 :: l), rfl, (by rw [chainS_step (by omega) (by omega) hk65 hyP.2 hc82]; exact hS), (hC.cons (by omega) hyP.1 hyP.2 (by omega) (by omega)), hD, hS22, hJ, hB4, hE, rfl, rfl, rfl, rfl, trivial⟩
            · replace hc56 := dF hc56
              refine E.exit ?_
              exact ⟨_, _, l, (hS.symm.trans (chainS_stop (.inr (by omega)))), hC, hD, hS22, hJ, hB4, hE, rfl, rfl, rfl, trivial⟩
          · have hg43q := hg43
            replace hg43 := dF hg43
            refine R.gF rfl (congrArg Value.bool hg43q) rfl ?_
            refine R.gF rfl (congrArg Value.bool hg43q) rfl ?_
            refine R.gF rfl (congrArg Value.bool hg43q) rfl ?_
            refine R.gF rfl (congrArg Value.bool hg43q) rfl ?_
            refine R.gF rfl (congrArg Value.bool hg43q) rfl ?_
            refine R.gF rfl (congrArg Value.bool hg43q) rfl ?_
            refine R.gF rfl (congrArg Value.bool hg43q) rfl ?_
            refine R.gF rfl (congrArg Value.bool hg43q) rfl ?_
            refine R.gF rfl (congrArg Value.bool hg43q) rfl ?_
            refine R.gF rfl (congrArg Value.bool hg43q) rfl ?_
            refine R.gF rfl (congrArg Value.bool hg43q) rfl ?_
            refine R.gF rfl (congrArg Value.bool hg43q) rfl ?_
            refine R.pickF (congrArg Value.bool hg43q) ?_
            refine R.nil ?_
            refine E.condF rfl ?_
            refine E.exit ?_
            exact ⟨_, _, l, (hS.symm.trans (chainS_stop (.inl (by omega)))), hC, hD, hS22, hJ, hB4, hE, rfl, rfl, rfl, trivial⟩
      · rintro e wr ⟨vl, us, l, hS, hC, hD, hS22, hJ, hB4, hE, hH⟩
        obtain ⟨e, rfl⟩ := hH.ex
        clear hH
        refine E.seq ?_
        refine E.seq ?_
        refine E.regionP rfl ?_
        refine R.move ?_
        refine R.eql (b := decide (((((lastL d d.n).2 : Nat) : Int)) = (((4294967295 : Nat) : Int)))) rfl rfl rfl ?_
        refine R.nil ?_
        refine E.cond (b := decide (((((lastL d d.n).2 : Nat) : Int)) = (((4294967295 : Nat) : Int)))) rfl (fun hc84 => ?_) (fun hc84 => ?_)
        · replace hc84 := dT hc84
          refine E.seq ?_
          refine E.regionP rfl ?_
          refine R.assign ?_
          refine R.assign ?_
          refine R.nil ?_
          refine E.ret ?_
          refine ret2 (.pointer none) (.int .i64 ((4 : Nat) : Int)) rfl rfl rfl ⟨_, rfl, ?_⟩
          refine ⟨hE, ?_⟩
          rw [openL_full hn0 hS (by omega)]
          exact ⟨hD, rfl⟩
        · replace hc84 := dF hc84
          refine E.skip ?_
          refine E.seq ?_
          refine E.seq ?_
          refine E.regionP rfl ?_
          refine R.move ?_
          refine R.nilCheck rfl ?_
          refine R.fld fa86_1 rfl ?_
          refine R.loadB t84 hJ.blk rfl rfl rfl trivial ?_
          refine R.len Try.underlying84 (show Sl _ 106 6 vl l.length (recsC us l) from hJ.lv).row rfl ?_
          refine R.move ?_
          refine R.nil ?_
          refine E.block ?_
          refine E.loop (fun n e wr => ∃ (a : Nat) (dc : Dk) (m : Nat), n = l.length - a ∧ a ≤ l.length ∧ dc.n = d.n ∧ dc.pw ≤ 9223372036854775807 ∧ MSt (jobsL d.n (l.drop a)) dc m (mendL (jobsL d.n l) d 0) ∧ DM wr b900 vb vd dc ∧ SU8s wr u22 (lastL d d.n).1.dat ∧ JM wr b29 b900 vl us ⟨l, (lastL d d.n).2 + 1, m, false⟩ ∧ Blk wr b4 106 #[.int .i64 (((lastL d d.n).1.h.total : Nat) : Int), .int .i64 (((lastL d d.n).1.h.number : Nat) : Int), .int .i64 (((lastL d d.n).1.h.life : Nat) : Int), .int .i64 (((lastL d d.n).1.h.first : Nat) : Int), .int .i64 (((lastL d d.n).1.at_ : Nat) : Int), u22] ∧ Upd (DB b900 vb vd) w wr ∧ Has e [(0, .pointer (some ⟨b900, 0, none⟩)), (6, .pointer (some ⟨b29, 0, none⟩)), (88, vl), (89, .int .i64 ((l.length : Nat) : Int)), (90, .int .i64 ((a : Nat) : Int))]) (l.length) ?_ ?_
          · exact ⟨0, d, 0, rfl, by omega, rfl, hpw0, ⟨rfl, by have := jobs_len hC; simpa using this⟩, hD, hS22, hJ, hB4, hE, rfl, rfl, rfl, rfl, rfl, trivial⟩
          · rintro n e wr ⟨a, dc, m, rfl, hia, hdn, hpw, hmm, hD, hS22, hJ, hB4, hE, hH⟩
            obtain ⟨e, rfl⟩ := hH.ex
            clear hH
            have hCl := hC.len
            refine E.seq ?_
            refine E.regionP rfl ?_
            refine R.lss (b := decide ((((a : Nat) : Int)) < (((l.length : Nat) : Int)))) rfl rfl rfl ?_
            refine R.nil ?_
            refine E.seq ?_
            refine E.cond (b := decide ((((a : Nat) : Int)) < (((l.length : Nat) : Int)))) rfl (fun hc91 => ?_) (fun hc91 => ?_)
            · replace hc91 := dT hc91
              have hy := hC.rc a (by omega)
              have hyt := hy.tot
              have hya := hy.at_
              refine E.skip ?_
              refine E.seq ?_
              refine E.block ?_
              refine E.seq ?_
              refine E.regionP rfl ?_
              refine R.ix (m := a) Try.underlying84 t106 (by decide) (show Sl _ 106 6 vl l.length (recsC us l) from hJ.lv).row rfl rfl (by omega) ?_
              refine R.loadE t106 (by decide) (show Sl _ 106 6 vl l.length (recsC us l) from hJ.lv).row rfl (recs_take (l := l) hJ.len (by omega)) rfl rfl (fun _ _ => trivial) ?_
              refine R.alloc t106 nofun ?_
              intro b10 w19 hb10 hx19 hB10
              have ne4_10 : b4 ≠ b10 := by have := hB4.lt; omega
              have hn_hJ_10 := hJ.new hb10
              replace hb10 := Nat.le_trans hE.size hb10
              replace hD := hD.ext hx19
              replace hS22 := hS22.ext hx19
              replace hJ := hJ.ext hx19
              replace hB4 := hB4.ext hx19
              replace hE := hE.ext hx19
              replace hB10 : Blk _ b10 106 #[.int .i64 ((0 : Nat) : Int), .int .i64 ((0 : Nat) : Int), .int .i64 ((0 : Nat) : Int), .int .i64 ((0 : Nat) : Int), .int .i64 ((0 : Nat) : Int), .slice none 0 0] := hB10
              refine R.storeA t106 hB10 rfl rfl rfl rfl (ones6 rfl rfl rfl rfl rfl (show SU8s _ (us.getD a undef) (l.getD a Rc0).dat from hJ.rows a (by show _ < l.length; omega)).one) nofun ?_
              intro w20 hU20 hs20 hN20
              replace hD := hD.upT hU20 hB10 (by decide)
              replace hS22 := hS22.upT hU20 hB10 (by decide)
              replace hJ := hJ.upN hU20 hn_hJ_10
              replace hB4 := hB4.up hU20 (fun h => ne4_10 h)
              replace hE := hE.own hU20 hb10
              replace hB10 : Blk _ b10 106 #[.int .i64 (((l.getD a Rc0).h.total : Nat) : Int), .int .i64 (((l.getD a Rc0).h.number : Nat) : Int), .int .i64 (((l.getD a Rc0).h.life : Nat) : Int), .int .i64 (((l.getD a Rc0).h.first : Nat) : Int), .int .i64 (((l.getD a Rc0).at_ : Nat) : Int), (us.getD a undef)] := hN20
              clear hN20
              refine R.nil ?_
              refine E.seq ?_
              refine E.regionP rfl ?_
              refine R.fld fa106_0 rfl ?_
              refine R.fld fa103_0 rfl ?_
              refine R.loadB t3 hB10 rfl rfl rfl trivial ?_
              refine R.move ?_
              refine R.nil ?_
              refine E.block ?_
              refine E.loop (fun n e wr => ∃ (k : Nat) (dc : Dk) (m : Nat), n = (l.getD a Rc0).h.total - k ∧ k ≤ (l.getD a Rc0).h.total ∧ dc.n = d.n ∧ dc.pw ≤ 9223372036854775807 ∧ MSt (restK d.n (l.getD a Rc0) k (jobsL d.n (l.drop (a + 1)))) dc m (mendL (jobsL d.n l) d 0) ∧ DM wr b900 vb vd dc ∧ SU8s wr u22 (lastL d d.n).1.dat ∧ JM wr b29 b900 vl us ⟨l, (lastL d d.n).2 + 1, m, false⟩ ∧ Blk wr b4 106 #[.int .i64 (((lastL d d.n).1.h.total : Nat) : Int), .int .i64 (((lastL d d.n).1.h.number : Nat) : Int), .int .i64 (((lastL d d.n).1.h.life : Nat) : Int), .int .i64 (((lastL d d.n).1.h.first : Nat) : Int), .int .i64 (((lastL d d.n).1.at_ : Nat) : Int), u22] ∧ Blk wr b10 106 #[.int .i64 (((l.getD a Rc0).h.total : Nat) : Int), .int .i64 (((l.getD a Rc0).h.number : Nat) : Int), .int .i64 (((l.getD a Rc0).h.life : Nat) : Int), .int .i64 (((l.getD a Rc0).h.first : Nat) : Int), .int .i64 (((l.getD a Rc0).at_ : Nat) : Int), (us.getD a undef)] ∧ Upd (DB b900 vb vd) w wr ∧ Has e [(0, .pointer (some ⟨b900, 0, none⟩)), (6, .pointer (some ⟨b29, 0, none⟩)), (10, .pointer (some ⟨b10, 0, none⟩)), (88, vl), (89, .int .i64 ((l.length : Nat) : Int)), (90, .int .i64 ((a : Nat) : Int)), (96, .int .i64 (((l.getD a Rc0).h.total : Nat) : Int)), (97, .int .i64 ((k : Nat) : Int))]) ((l.getD a Rc0).h.total) ?_ ?_
              · exact ⟨0, dc, m, rfl, by omega, hdn, hpw, (by rw [← jobsL_drop (by omega)]; exact hmm), hD, hS22, hJ, hB4, hB10, hE, rfl, rfl, rfl, rfl, rfl, rfl, rfl, rfl, trivial⟩
              · rintro n e wr ⟨k, dc, m, rfl, hik, hdn, hpw, hmm, hD, hS22, hJ, hB4, hB10, hE, hH⟩
                obtain ⟨e, rfl⟩ := hH.ex
                clear hH
                refine E.seq ?_
                refine E.regionP rfl ?_
                refine R.lss (b := decide ((((k : Nat) : Int)) < ((((l.getD a Rc0).h.total : Nat) : Int)))) rfl rfl rfl ?_
                refine R.nil ?_
                refine E.seq ?_
                refine E.cond (b := decide ((((k : Nat) : Int)) < ((((l.getD a Rc0).h.total : Nat) : Int)))) rfl (fun hc98 => ?_) (fun hc98 => ?_)
                · replace hc98 := dT hc98
                  have hml := Nat.mod_lt ((l.getD a Rc0).at_ + k) (show 0 < d.n by omega)
                  refine E.skip ?_
                  refine E.seq ?_
                  refine E.block ?_
                  refine E.seq ?_
                  refine E.regionP rfl ?_
                  refine R.move ?_
                  refine R.assign ?_
                  refine R.nil ?_
                  refine E.seq ?_
                  refine E.regionP rfl ?_
                  refine R.move ?_
                  refine R.nil ?_
                  refine E.block ?_
                  refine E.loop (fun n e wr => ∃ (t : Nat) (dc : Dk) (m : Nat), n = 2 - t ∧ t ≤ 2 ∧ dc.n = d.n ∧ dc.pw ≤ 9223372036854775807 ∧ MSt ((jobs2 d.n (l.getD a Rc0) k).drop t ++ restK d.n (l.getD a Rc0) (k + 1) (jobsL d.n (l.drop (a + 1)))) dc m (mendL (jobsL d.n l) d 0) ∧ DM wr b900 vb vd dc ∧ SU8s wr u22 (lastL d d.n).1.dat ∧ JM wr b29 b900 vl us ⟨l, (lastL d d.n).2 + 1, m, false⟩ ∧ Blk wr b4 106 #[.int .i64 (((lastL d d.n).1.h.total : Nat) : Int), .int .i64 (((lastL d d.n).1.h.number : Nat) : Int), .int .i64 (((lastL d d.n).1.h.life : Nat) : Int), .int .i64 (((lastL d d.n).1.h.first : Nat) : Int), .int .i64 (((lastL d d.n).1.at_ : Nat) : Int), u22] ∧ Blk wr b10 106 #[.int .i64 (((l.getD a Rc0).h.total : Nat) : Int), .int .i64 (((l.getD a Rc0).h.number : Nat) : Int), .int .i64 (((l.getD a Rc0).h.life : Nat) : Int), .int .i64 (((l.getD a Rc0).h.first : Nat) : Int), .int .i64 (((l.getD a Rc0).at_ : Nat) : Int), (us.getD a undef)] ∧ Upd (DB b900 vb vd) w wr ∧ Has e [(0, .pointer (some ⟨b900, 0, none⟩)), (6, .pointer (some ⟨b29, 0, none⟩)), (10, .pointer (some ⟨b10, 0, none⟩)), (11, .int .i64 ((k : Nat) : Int)), (88, vl), (89, .int .i64 ((l.length : Nat) : Int)), (90, .int .i64 ((a : Nat) : Int)), (96, .int .i64 (((l.getD a Rc0).h.total : Nat) : Int)), (97, .int .i64 ((k : Nat) : Int)), (100, .int .i64 ((t : Nat) : Int))]) (2) ?_ ?_
                  · exact ⟨0, dc, m, rfl, by omega, hdn, hpw, (by rw [← restK_step (by omega)]; exact hmm), hD, hS22, hJ, hB4, hB10, hE, rfl, rfl, rfl, rfl, rfl, rfl, rfl, rfl, rfl, rfl, trivial⟩
                  · rintro n e wr ⟨t, dc, m, rfl, hit, hdn, hpw, hmm, hD, hS22, hJ, hB4, hB10, hE, hH⟩
                    obtain ⟨e, rfl⟩ := hH.ex
                    clear hH
                    refine E.seq ?_
                    refine E.regionP rfl ?_
                    refine R.lss (b := decide ((((t : Nat) : Int)) < (((2 : Nat) : Int)))) rfl rfl rfl ?_
                    refine R.nil ?_
                    refine E.seq ?_
                    refine E.cond (b := decide ((((t : Nat) : Int)) < (((2 : Nat) : Int)))) rfl (fun hc101 => ?_) (fun hc101 => ?_)
                    · replace hc101 := dT hc101
                      have hmlt : m < 168000 := by rw [jobs2_drop (by omega), List.cons_append] at hmm; exact hmm.lt
                      refine E.skip ?_
                      refine E.seq ?_
                      refine E.block ?_
                      refine E.seq ?_
                      refine E.regionP rfl ?_
                      refine R.move ?_
                      refine R.assign ?_
                      refine R.nil ?_
                      refine E.seq ?_
                      refine E.regionW (fun c x => x < wr.heap.size ∧ (c = false → True)) []  mixed rfl (by kernel_rfl) ?_
                      intro w21 hx21 hh21
                      replace hD := hD.ext hx21
                      replace hS22 := hS22.ext hx21
                      replace hJ := hJ.ext hx21
                      replace hB4 := hB4.ext hx21
                      replace hB10 := hB10.ext hx21
                      replace hE := hE.ext hx21
                      have hEs : Ext w21 w21 := Upd.refl _
                      have hS0 := hx21.size
                      have hSB : ∀ b, b < w21.heap.size → b < wr.heap.size ∧ (true = false → (fun x => True) b) := fun b hb => ⟨by rw [hh21] at hb; exact hb, nofun⟩
                      have hSA : ∀ b, b < w21.heap.size → (fun x => True) b → b < wr.heap.size ∧ (false = false → (fun x => True) b) := fun b hb h => ⟨by rw [hh21] at hb; exact hb, fun _ => h⟩
                      have hSO : ∀ b, b < w.heap.size → b < wr.heap.size ∧ (false = false → (fun x => True) b) := fun b hb => hSA b (Nat.lt_of_lt_of_le hb hE.size) (trivial)
                      have hDs := hD
                      have hS22s := hS22
                      have hJs := hJ
                      have hB4s := hB4
                      have hB10s := hB10
                      refine R.fld fa106_1 rfl ?_
                      refine R.loadB t3 hB10 rfl rfl rfl (hSA b10 hB10s.lt (trivial)) ?_
                      refine R.move ?_
                      refine R.addN (m := ((l.getD a Rc0).at_)) (n := k) rfl rfl (by omega) ?_
                      refine R.move ?_
                      refine R.callE1 ent43 (placesP _ hD hdn) rfl (fun _ _ hb => Nat.lt_of_lt_of_le hb.1 (Nat.le_trans hS0 hEs.size)) ?_
                      rintro v108 w22 hx22 rfl
                      replace hD := hD.ext hx22
                      replace hS22 := hS22.ext hx22
                      replace hJ := hJ.ext hx22
                      replace hB4 := hB4.ext hx22
                      replace hB10 := hB10.ext hx22
                      replace hE := hE.ext hx22
                      replace hEs := hEs.ext hx22
                      refine R.remN (m := (((l.getD a Rc0).at_) + k)) (n := d.n) rfl rfl (by omega) ?_
                      refine R.move ?_
                      refine R.move ?_
                      refine R.callE1 ent43 (placesP _ hD hdn) rfl (fun _ _ hb => Nat.lt_of_lt_of_le hb.1 (Nat.le_trans hS0 hEs.size)) ?_
                      rintro v112 w23 hx23 rfl
                      replace hD := hD.ext hx23
                      replace hS22 := hS22.ext hx23
                      replace hJ := hJ.ext hx23
                      replace hB4 := hB4.ext hx23
                      replace hB10 := hB10.ext hx23
                      replace hE := hE.ext hx23
                      replace hEs := hEs.ext hx23
                      refine R.mulN (m := t) (n := d.n) rfl rfl (by have : t * d.n ≤ 1 * d.n := Nat.mul_le_mul_right _ (by omega); omega) ?_
                      refine R.addN (m := ((((l.getD a Rc0).at_) + k) % d.n)) (n := (t * d.n)) rfl rfl (by have : t * d.n ≤ 1 * d.n := Nat.mul_le_mul_right _ (by omega); omega) ?_
                      refine R.assign ?_
                      refine R.nil ?_
                      refine E.seq ?_
                      refine E.forget [(0, .pointer (some ⟨b900, 0, none⟩)), (6, .pointer (some ⟨b29, 0, none⟩)), (10, .pointer (some ⟨b10, 0, none⟩)), (11, .int .i64 ((k : Nat) : Int)), (13, .int .i64 ((((((l.getD a Rc0).at_) + k) % d.n) + (t * d.n) : Nat) : Int)), (88, vl), (89, .int .i64 ((l.length : Nat) : Int)), (90, .int .i64 ((a : Nat) : Int)), (96, .int .i64 (((l.getD a Rc0).h.total : Nat) : Int)), (97, .int .i64 ((k : Nat) : Int)), (100, .int .i64 ((t : Nat) : Int))] ⟨rfl, rfl, rfl, rfl, rfl, rfl, rfl, rfl, rfl, rfl, rfl, trivial⟩ (fun e => ?_)
                      refine E.regionP rfl ?_
                      refine R.fld fa106_0 rfl ?_
                      refine R.loadS t103 hB10 rfl (us := [.int .i64 (((l.getD a Rc0).h.total : Nat) : Int), .int .i64 (((l.getD a Rc0).h.number : Nat) : Int), .int .i64 (((l.getD a Rc0).h.life : Nat) : Int), .int .i64 (((l.getD a Rc0).h.first : Nat) : Int)]) rfl rfl rfl trivial ?_
                      refine R.fld fa106_2 rfl ?_
                      refine R.loadB t55 hB10 rfl rfl rfl trivial ?_
                      refine R.move ?_
                      refine R.callE3 ent54 (piece_ _ (k := k) (show SU8s _ (us.getD a undef) (l.getD a Rc0).dat from hJ.rows a (by show _ < l.length; omega)).row (by have := hy.d.len48 k (by omega); omega) (by have := hy.d.lenle; omega)) rfl rfl rfl nofun ?_
                      rintro v120 w24 hx24 rfl
                      replace hD := hD.ext hx24
                      replace hS22 := hS22.ext hx24
                      replace hJ := hJ.ext hx24
                      replace hB4 := hB4.ext hx24
                      replace hB10 := hB10.ext hx24
                      replace hE := hE.ext hx24
                      refine R.alloc t27 nofun ?_
                      intro b14 w25 hb14 hx25 hB14
                      have hn_hD_14 := hD.new hb14
                      replace hb14 := Nat.le_trans hE.size hb14
                      replace hD := hD.ext hx25
                      replace hS22 := hS22.ext hx25
                      replace hJ := hJ.ext hx25
                      replace hB4 := hB4.ext hx25
                      replace hB10 := hB10.ext hx25
                      replace hE := hE.ext hx25
                      replace hB14 : Blk _ b14 27 (Array.replicate 64 (.int .u8 0)) := hB14
                      rw [← zeroV] at hB14
                      refine R.storeA t27 hB14 rfl rfl (blkV_size zeroB_ok.1) (blkV_size (pcB_ok hy.d.byt k).1) blkV_ones nofun ?_
                      intro w26 hU26 hs26 hN26
                      replace hD := hD.upN hU26 hn_hD_14
                      replace hS22 := hS22.upT hU26 hB14 (by decide)
                      replace hJ := hJ.upT hU26 hB14 (by decide)
                      replace hB4 := hB4.upT hU26 hB14 (by decide)
                      replace hB10 := hB10.upT hU26 hB14 (by decide)
                      replace hE := hE.own hU26 hb14
                      replace hB14 : Blk _ b14 27 (blkV (pcB (l.getD a Rc0) k)) := hN26
                      refine R.nil ?_
                      refine E.seq ?_
                      refine E.seq ?_
                      refine E.regionP rfl ?_
                      refine R.move ?_
                      refine R.move ?_
                      refine R.callE2 ent15 (read_ _ hD) rfl rfl nofun ?_
                      rintro v124 w27 hx27 rfl
                      replace hD := hD.ext hx27
                      replace hS22 := hS22.ext hx27
                      replace hJ := hJ.ext hx27
                      replace hB4 := hB4.ext hx27
                      replace hB10 := hB10.ext hx27
                      replace hB14 := hB14.ext hx27
                      replace hE := hE.ext hx27
                      refine R.move ?_
                      refine R.extract rfl rfl ?_
                      refine R.extract rfl rfl ?_
                      refine R.alloc t27 nofun ?_
                      intro b15 w28 hb15 hx28 hB15
                      have ne14_15 : b14 ≠ b15 := by have := hB14.lt; omega
                      have hn_hD_15 := hD.new hb15
                      replace hb15 := Nat.le_trans hE.size hb15
                      replace hD := hD.ext hx28
                      replace hS22 := hS22.ext hx28
                      replace hJ := hJ.ext hx28
                      replace hB4 := hB4.ext hx28
                      replace hB10 := hB10.ext hx28
                      replace hB14 := hB14.ext hx28
                      replace hE := hE.ext hx28
                      replace hB15 : Blk _ b15 27 (Array.replicate 64 (.int .u8 0)) := hB15
                      rw [← zeroV] at hB15
                      refine R.storeA t27 hB15 rfl rfl (blkV_size zeroB_ok.1) (blkV_size (Dk.okO hD.ok).1) blkV_ones nofun ?_
                      intro w29 hU29 hs29 hN29
                      replace hD := hD.upN hU29 hn_hD_15
                      replace hS22 := hS22.upT hU29 hB15 (by decide)
                      replace hJ := hJ.upT hU29 hB15 (by decide)
                      replace hB4 := hB4.upT hU29 hB15 (by decide)
                      replace hB10 := hB10.upT hU29 hB15 (by decide)
                      replace hB14 := hB14.up hU29 (fun h => ne14_15 h)
                      replace hE := hE.own hU29 hb15
                      replace hB15 : Blk _ b15 27 (blkV ((blkO (dc.read ((((((l.getD a Rc0).at_) + k) % d.n) + (t * d.n) : Nat) : Int))))) := hN29
                      refine R.assign ?_
                      refine R.nil ?_
                      refine E.seq ?_
                      refine E.forget [(0, .pointer (some ⟨b900, 0, none⟩)), (6, .pointer (some ⟨b29, 0, none⟩)), (10, .pointer (some ⟨b10, 0, none⟩)), (11, .int .i64 ((k : Nat) : Int)), (13, .int .i64 ((((((l.getD a Rc0).at_) + k) % d.n) + (t * d.n) : Nat) : Int)), (14, .pointer (some ⟨b14, 0, none⟩)), (15, .pointer (some ⟨b15, 0, none⟩)), (16, .bool ((dc.read ((((((l.getD a Rc0).at_) + k) % d.n) + (t * d.n) : Nat) : Int)).isSome)), (88, vl), (89, .int .i64 ((l.length : Nat) : Int)), (90, .int .i64 ((a : Nat) : Int)), (96, .int .i64 (((l.getD a Rc0).h.total : Nat) : Int)), (97, .int .i64 ((k : Nat) : Int)), (100, .int .i64 ((t : Nat) : Int))] ⟨rfl, rfl, rfl, rfl, rfl, rfl, rfl, rfl, rfl, rfl, rfl, rfl, rfl, rfl, trivial⟩ (fun e => ?_)
                      refine E.regionP rfl ?_
                      refine R.move ?_
                      refine R.move ?_
                      have hg128 := Bool.eq_false_or_eq_true ((dc.read ((((((l.getD a Rc0).at_) + k) % d.n) + (t * d.n) : Nat) : Int)).isSome)
                      rcases hg128 with hg128 | hg128
                      · have hg128q := hg128
                        refine R.gT rfl (congrArg Value.bool hg128q) ?_
                        refine R.loadA t27 hB15 rfl (blkV_size (Dk.okO hD.ok).1) rfl trivial ?_
                        refine R.gT rfl (congrArg Value.bool hg128q) ?_
                        refine R.loadA t27 hB14 rfl (blkV_size (pcB_ok hy.d.byt k).1) rfl trivial ?_
                        refine R.gT rfl (congrArg Value.bool hg128q) ?_
                        refine R.eqlA (b' := decide ((blkO (dc.read ((((((l.getD a Rc0).at_) + k) % d.n) + (t * d.n) : Nat) : Int))) = pcB (l.getD a Rc0) k)) rfl rfl Try.eqGuardType27 (eq27 (Dk.okO hD.ok) (pcB_ok hy.d.byt k)) ?_
                        refine R.pickT (congrArg Value.bool hg128q) ?_
                        refine R.nil ?_
                        refine E.cond (b := decide ((blkO (dc.read ((((((l.getD a Rc0).at_) + k) % d.n) + (t * d.n) : Nat) : Int))) = pcB (l.getD a Rc0) k)) rfl (fun hc132 => ?_) (fun hc132 => ?_)
                        · replace hc132 := dT hc132
                          refine E.exit ?_
                          refine E.regionP rfl ?_
                          refine R.addN (m := t) (n := 1) rfl rfl (by omega) ?_
                          refine R.move ?_
                          refine R.nil ?_
                          exact ⟨2 - (t + 1), by omega, t + 1, dc, m, rfl, by omega, hdn, hpw, (by rw [jobs2_drop (by omega), List.cons_append] at hmm; exact hmm.skip hg128 hc132), hD, hS22, hJ, hB4, hB10, hE, rfl, rfl, rfl, rfl, rfl, rfl, rfl, rfl, rfl, rfl, trivial⟩
                        · replace hc132 := dF hc132
                          refine E.skip ?_
                          refine E.seq ?_
                          refine E.seq ?_
                          refine E.regionP rfl ?_
                          refine R.move ?_
                          refine R.move ?_
                          refine R.loadA t27 hB14 rfl (blkV_size (pcB_ok hy.d.byt k).1) rfl trivial ?_
                          refine R.call3 ent17 (write_ _ hD (pcB_ok hy.d.byt k) hpw) rfl rfl rfl ?_
                          rintro v136 w30 ⟨hU30, hDn30, rfl⟩
                          refine ⟨nofun, ?_⟩
                          replace hS22 := hS22.upD hU30 hD (by decide)
                          replace hJ := hJ.upD hU30 hD
                          replace hB4 := hB4.upD hU30 hD (by decide)
                          replace hB10 := hB10.upD hU30 hD (by decide)
                          replace hB14 := hB14.up hU30 (fun e => hn_hD_14 (DB.flip e))
                          replace hB15 := hB15.up hU30 (fun e => hn_hD_15 (DB.flip e))
                          replace hE := hE.trans hU30 (fun x _ h => h)
                          clear hD
                          have hD := hDn30
                          refine R.not rfl ?_
                          refine R.nil ?_
                          refine E.cond (b := !((dc.write ((((((l.getD a Rc0).at_) + k) % d.n) + (t * d.n) : Nat) : Int) (pcB (l.getD a Rc0) k)).2)) rfl (fun hc137 => ?_) (fun hc137 => ?_)
                          · refine E.seq ?_
                            refine E.forget [] trivial (fun e => ?_)
                            refine E.regionP rfl ?_
                            refine R.assign ?_
                            refine R.assign ?_
                            refine R.nil ?_
                            refine E.ret ?_
                            refine ret2 (.pointer none) (.int .i64 ((420 : Nat) : Int)) rfl rfl rfl ⟨_, rfl, ?_⟩
                            refine ⟨hE, ?_⟩
                            rw [jobs2_drop (by omega), List.cons_append] at hmm
                            rw [openL_pow hn0 hS (by omega) (hmm.fail (.inr hc132) (by simpa using hc137))]
                            exact ⟨hD, rfl⟩
                          · refine E.skip ?_
                            refine E.forget [(0, .pointer (some ⟨b900, 0, none⟩)), (6, .pointer (some ⟨b29, 0, none⟩)), (10, .pointer (some ⟨b10, 0, none⟩)), (11, .int .i64 ((k : Nat) : Int)), (88, vl), (89, .int .i64 ((l.length : Nat) : Int)), (90, .int .i64 ((a : Nat) : Int)), (96, .int .i64 (((l.getD a Rc0).h.total : Nat) : Int)), (97, .int .i64 ((k : Nat) : Int)), (100, .int .i64 ((t : Nat) : Int))] ⟨rfl, rfl, rfl, rfl, rfl, rfl, rfl, rfl, rfl, rfl, trivial⟩ (fun e => ?_)
                            refine E.regionP rfl ?_
                            refine R.move ?_
                            refine R.nilCheck rfl ?_
                            refine R.fld fa86_3 rfl ?_
                            refine R.loadB t3 hJ.blk rfl rfl rfl trivial ?_
                            refine R.addN (m := m) (n := 1) rfl rfl (by omega) ?_
                            refine R.nilCheck rfl ?_
                            refine R.fld fa86_3 rfl ?_
                            refine R.store t3 hJ.blk rfl rfl rfl (by simp) nofun ?_
                            intro w31 hU31 hs31 hN31
                            have hJ1 := hJ
                            replace hJ : JM _ b29 b900 vl us ⟨l, (lastL d d.n).2 + 1, m + 1, false⟩ := hJ.setCell (m := m + 1) (b := false) hU31 hN31
                            replace hD := hD.upT hU31 hJ1.blk (by decide)
                            replace hS22 := hS22.upT hU31 hJ1.blk (by decide)
                            replace hB4 := hB4.upT hU31 hJ1.blk (by decide)
                            replace hB10 := hB10.upT hU31 hJ1.blk (by decide)
                            replace hB14 := hB14.upT hU31 hJ1.blk (by decide)
                            replace hB15 := hB15.upT hU31 hJ1.blk (by decide)
                            replace hE := hE.own hU31 hb29
                            refine R.nil ?_
                            refine E.regionP rfl ?_
                            refine R.addN (m := t) (n := 1) rfl rfl (by omega) ?_
                            refine R.move ?_
                            refine R.nil ?_
                            exact ⟨2 - (t + 1), by omega, t + 1, _, m + 1, rfl, by omega, ((Dk.write_n _ _ _).trans hdn), (Dk.write_pw _ _ _ (by decide) hpw), (by rw [jobs2_drop (by omega), List.cons_append] at hmm; exact hmm.write (.inr hc132) (by simpa using hc137)), hD, hS22, hJ, hB4, hB10, hE, rfl, rfl, rfl, rfl, rfl, rfl, rfl, rfl, rfl, rfl, trivial⟩
                      · have hg128q := hg128
                        refine R.gF rfl (congrArg Value.bool hg128q) rfl ?_
                        refine R.gF rfl (congrArg Value.bool hg128q) rfl ?_
                        refine R.gF rfl (congrArg Value.bool hg128q) rfl ?_
                        refine R.pickF (congrArg Value.bool hg128q) ?_
                        refine R.nil ?_
                        refine E.condF rfl ?_
                        refine E.skip ?_
                        refine E.seq ?_
                        refine E.seq ?_
                        refine E.regionP rfl ?_
                        refine R.move ?_
                        refine R.move ?_
                        refine R.loadA t27 hB14 rfl (blkV_size (pcB_ok hy.d.byt k).1) rfl trivial ?_
                        refine R.call3 ent17 (write_ _ hD (pcB_ok hy.d.byt k) hpw) rfl rfl rfl ?_
                        rintro v136 w32 ⟨hU32, hDn32, rfl⟩
                        refine ⟨nofun, ?_⟩
                        replace hS22 := hS22.upD hU32 hD (by decide)
                        replace hJ := hJ.upD hU32 hD
                        replace hB4 := hB4.upD hU32 hD (by decide)
                        replace hB10 := hB10.upD hU32 hD (by decide)
                        replace hB14 := hB14.up hU32 (fun e => hn_hD_14 (DB.flip e))
                        replace hB15 := hB15.up hU32 (fun e => hn_hD_15 (DB.flip e))
                        replace hE := hE.trans hU32 (fun x _ h => h)
                        clear hD
                        have hD := hDn32
                        refine R.not rfl ?_
                        refine R.nil ?_
                        refine E.cond (b := !((dc.write ((((((l.getD a Rc0).at_) + k) % d.n) + (t * d.n) : Nat) : Int) (pcB (l.getD a Rc0) k)).2)) rfl (fun hc137 => ?_) (fun hc137 => ?_)
                        · refine E.seq ?_
                          refine E.forget [] trivial (fun e => ?_)
                          refine E.regionP rfl ?_
                          refine R.assign ?_
                          refine R.assign ?_
                          refine R.nil ?_
                          refine E.ret ?_
                          refine ret2 (.pointer none) (.int .i64 ((420 : Nat) : Int)) rfl rfl rfl ⟨_, rfl, ?_⟩
                          refine ⟨hE, ?_⟩
                          rw [jobs2_drop (by omega), List.cons_append] at hmm
                          rw [openL_pow hn0 hS (by omega) (hmm.fail (.inl hg128) (by simpa using hc137))]
                          exact ⟨hD, rfl⟩
                        · refine E.skip ?_
                          refine E.forget [(0, .pointer (some ⟨b900, 0, none⟩)), (6, .pointer (some ⟨b29, 0, none⟩)), (10, .pointer (some ⟨b10, 0, none⟩)), (11, .int .i64 ((k : Nat) : Int)), (88, vl), (89, .int .i64 ((l.length : Nat) : Int)), (90, .int .i64 ((a : Nat) : Int)), (96, .int .i64 (((l.getD a Rc0).h.total : Nat) : Int)), (97, .int .i64 ((k : Nat) : Int)), (100, .int .i64 ((t : Nat) : Int))] ⟨rfl, rfl, rfl, rfl, rfl, rfl, rfl, rfl, rfl, rfl, trivial⟩ (fun e => ?_)
                          refine E.regionP rfl ?_
                          refine R.move ?_
                          refine R.nilCheck rfl ?_
                          refine R.fld fa86_3 rfl ?_
                          refine R.loadB t3 hJ.blk rfl rfl rfl trivial ?_
                          refine R.addN (m := m) (n := 1) rfl rfl (by omega) ?_
                          refine R.nilCheck rfl ?_
                          refine R.fld fa86_3 rfl ?_
                          refine R.store t3 hJ.blk rfl rfl rfl (by simp) nofun ?_
                          intro w33 hU33 hs33 hN33
                          have hJ1 := hJ
                          replace hJ : JM _ b29 b900 vl us ⟨l, (lastL d d.n).2 + 1, m + 1, false⟩ := hJ.setCell (m := m + 1) (b := false) hU33 hN33
                          replace hD := hD.upT hU33 hJ1.blk (by decide)
                          replace hS22 := hS22.upT hU33 hJ1.blk (by decide)
                          replace hB4 := hB4.upT hU33 hJ1.blk (by decide)
                          replace hB10 := hB10.upT hU33 hJ1.blk (by decide)
                          replace hB14 := hB14.upT hU33 hJ1.blk (by decide)
                          replace hB15 := hB15.upT hU33 hJ1.blk (by decide)
                          replace hE := hE.own hU33 hb29
                          refine R.nil ?_
                          refine E.regionP rfl ?_
                          refine R.addN (m := t) (n := 1) rfl rfl (by omega) ?_
                          refine R.move ?_
                          refine R.nil ?_
                          exact ⟨2 - (t + 1), by omega, t + 1, _, m + 1, rfl, by omega, ((Dk.write_n _ _ _).trans hdn), (Dk.write_pw _ _ _ (by decide) hpw), (by rw [jobs2_drop (by omega), List.cons_append] at hmm; exact hmm.write (.inl hg128) (by simpa using hc137)), hD, hS22, hJ, hB4, hB10, hE, rfl, rfl, rfl, rfl, rfl, rfl, rfl, rfl, rfl, rfl, trivial⟩
                    · replace hc101 := dF hc101
                      obtain rfl : t = 2 := by omega
                      refine E.exit ?_
                      refine E.regionP rfl ?_
                      refine R.addN (m := k) (n := 1) rfl rfl (by omega) ?_
                      refine R.move ?_
                      refine R.nil ?_
                      exact ⟨(l.getD a Rc0).h.total - (k + 1), by omega, k + 1, dc, m, rfl, by omega, hdn, hpw, hmm, hD, hS22, hJ, hB4, hB10, hE, rfl, rfl, rfl, rfl, rfl, rfl, rfl, rfl, trivial⟩
                · replace hc98 := dF hc98
                  refine E.exit ?_
                  refine E.regionP rfl ?_
                  refine R.addN (m := a) (n := 1) rfl rfl (by omega) ?_
                  refine R.move ?_
                  refine R.nil ?_
                  exact ⟨l.length - (a + 1), by omega, a + 1, dc, m, rfl, by omega, hdn, hpw, (by rw [restK_end (by omega)] at hmm; exact hmm), hD, hS22, hJ, hB4, hE, rfl, rfl, rfl, rfl, rfl, trivial⟩
            · replace hc91 := dF hc91
              refine E.exit ?_
              refine E.seq ?_
              refine E.regionP rfl ?_
              refine R.move ?_
              refine R.assign ?_
              refine R.assign ?_
              refine R.nil ?_
              refine E.ret ?_
              refine ret2 (.pointer (some ⟨b29, 0, none⟩)) (.int .i64 ((0 : Nat) : Int)) rfl rfl rfl ⟨_, rfl, ?_⟩
              refine ⟨hE, ?_⟩
              rw [List.drop_of_length_le (by omega)] at hmm
              rw [openL_ok hn0 hS (by omega) hmm.1.symm]
              exact ⟨hD, _, _, _, rfl, hJ, hb29⟩
end Go.Proofs.Ytlplogplicgfiaa
