import Derived.Test.YtlplogplicgfiaaZ5JR
namespace Go.Proofs.Ytlplogplicgfiaa
open Go Go.RowKit
structure RU8 (w : World) (v : Value) (xs : List Nat) : Prop where
  row : U8s w v xs
  blk : ∀ b, vblk v = some b → ∃ cs fr, w.heap[b]? = some (.cells cs 5 fr)
theorem RU8.of {w : World} {v : Value} {xs : List Nat} (h : SU8s w v xs) : RU8 w v xs := ⟨h.row, fun b e => by obtain ⟨c, q⟩ := h.blk e; exact ⟨c, _, q⟩⟩
theorem RU8.one {w : World} {v : Value} {xs : List Nat} (h : RU8 w v xs) : v.oneCell' = true := Row.one h.row
theorem RU8.up {X : Nat → Prop} {w w' : World} {v : Value} {xs : List Nat} (h : RU8 w v xs) (u : Upd X w w') (hX : ∀ b, vblk v = some b → ¬ X b) : RU8 w' v xs :=
  ⟨Row.up h.row u hX, fun b e => by obtain ⟨c, f, q⟩ := h.blk b e; exact ⟨c, f, (u.blk b (lt_of_get q) (hX b e)).trans q⟩⟩
theorem RU8.ext {w w' : World} {v : Value} {xs : List Nat} (h : RU8 w v xs) (u : Ext w w') : RU8 w' v xs := h.up u fun _ _ => id
theorem RU8.ne {w : World} {v : Value} {xs : List Nat} {b : Nat} {ty : TypeId} {cs : Array Value} (h : RU8 w v xs) (hB : Blk w b ty cs) (hne : 5 ≠ ty) : vblk v ≠ some b := fun e => by
  obtain ⟨c, f, q⟩ := h.blk b e
  have h1 := q.symm.trans hB
  simp at h1
  exact hne h1.2.1
theorem RU8.upT {w w' : World} {v : Value} {xs : List Nat} {b : Nat} {ty : TypeId} {cs : Array Value} (h : RU8 w v xs) (u : Upd (fun c => c = b) w w') (hB : Blk w b ty cs) (hne : 5 ≠ ty) : RU8 w' v xs := h.up u (fun x e e1 => h.ne hB hne (by have e2 : x = b := e1; exact e2 ▸ e))
theorem RU8.upS {w w' : World} {v x : Value} {xs : List Nat} {ty' k' m : Nat} {ds : List Value} (h : RU8 w v xs) (u : Upd (fun b => vblk x = some b) w w') (hx : Sl w ty' k' x m ds) (hne : 5 ≠ ty') : RU8 w' v xs := h.up u (fun b e e1 => by obtain ⟨c, q⟩ := hx.blk e1; exact h.ne q hne e)
theorem RU8.upD {w w' : World} {v : Value} {xs : List Nat} {p : Nat} {vb vd : Value} {d : Dk} (h : RU8 w v xs) (u : Upd (DB p vb vd) w w') (hD : DM w p vb vd d) (_ : True) : RU8 w' v xs := h.up u (fun b e e1 => by
  rcases e1 with rfl | e1 | e1
  · exact h.ne hD.blk (by decide) e
  · obtain ⟨c, q⟩ := hD.bls.blk e1; exact h.ne q (by decide) e
  · obtain ⟨c, q⟩ := hD.bds.blk e1; exact h.ne q (by decide) e)
theorem nbT {b : Bool} (h : (!b) = true) : b = false := by cases b <;> simp_all
theorem nbF {b : Bool} (h : (!b) = false) : b = true := by cases b <;> simp_all
theorem DM.notDB {w : World} {p b : Nat} {vb vd : Value} {d : Dk} {ty : TypeId} {cs : Array Value} (hD : DM w p vb vd d) (h : Blk w b ty cs) (hne : 25 ≠ ty ∧ 27 ≠ ty ∧ 4 ≠ ty) : ¬ DB p vb vd b := fun e => by
  rcases e with rfl | e | e
  · exact hD.blk.ne h hne.1 rfl
  · obtain ⟨c, q⟩ := hD.bls.blk e; exact q.ne h hne.2.1 rfl
  · obtain ⟨c, q⟩ := hD.bds.blk e; exact q.ne h hne.2.2 rfl
theorem recsC_drop : ∀ {us : List Value} {l : List Rc} (m : Nat), us.length = l.length → (recsC us l).drop (m * 6) = recsC (us.drop m) (l.drop m)
  | us, l, 0, _ => by simp
  | [], [], m + 1, _ => by simp [recsC]
  | u :: us, r :: l, m + 1, h => by
    have ih := recsC_drop (us := us) (l := l) m (by simpa using h)
    rw [show (m + 1) * 6 = (rcC r u).toList.length + m * 6 by simp; omega]
    simp only [recsC]
    rw [← List.drop_drop, List.drop_left, ih]; rfl
  | [], _ :: _, _ + 1, h => by simp at h
  | _ :: _, [], _ + 1, h => by simp at h
theorem recsC_app : ∀ {us us2 : List Value} {l l2 : List Rc}, us.length = l.length → recsC us l ++ recsC us2 l2 = recsC (us ++ us2) (l ++ l2)
  | [], us2, [], l2, _ => rfl
  | u :: us, us2, r :: l, l2, h => by
    simp only [recsC, List.cons_append, List.append_assoc]
    rw [recsC_app (by simpa using h)]
  | [], _, _ :: _, _, h => by simp at h
  | _ :: _, _, [], _, h => by simp at h
def cntL (n : Nat) : Nat := max 1 ((n + 48 - 1) / 48)
def newAt (n : Nat) (l : List Rc) : Nat := if l.length = 0 then 0 else ((l.getD (l.length - 1) Rc0).at_ + (l.getD (l.length - 1) Rc0).h.total) % n
def newR (n : Nat) (j : Jn) (rec : List Nat) (f : Nat) : Rc := ⟨⟨cntL rec.length, lastN j.live + 1, j.life, f⟩, newAt n j.live, rec⟩
def ajob (n : Nat) (r : Rc) (i : Nat) : Nat × List Nat := ((r.at_ + i % r.h.total) % n + i / r.h.total * n, pcB r (i % r.h.total))
def ajobs (n : Nat) (r : Rc) : List (Nat × List Nat) := (List.range (2 * r.h.total)).map (ajob n r)
def writeL : List (Nat × List Nat) → Dk → Dk × Bool
  | [], d => (d, true)
  | (i, b) :: l, d => if (d.write i b).2 then writeL l (d.write i b).1 else ((d.write i b).1, false)
def appendL (d : Dk) (j : Jn) (rec : List Nat) (first : Int) : Dk × Jn × Nat × Nat :=
  if j.down = true then (d, j, 0, 420)
  else if 4032 < rec.length then (d, j, 0, 3)
  else if first < (firstN j.live : Int) ∨ (lastN j.live : Int) + 1 < first then (d, j, 0, 2)
  else if freeI d.n j.live < (cntL rec.length : Int) ∨ 4294967295 < lastN j.live + 1 then (d, j, 0, 4)
  else match writeL (ajobs d.n (newR d.n j rec first.toNat)) d with
    | (d', true) => (d', ⟨j.live.drop (first.toNat - firstN j.live) ++ [newR d.n j rec first.toNat], j.life, j.mended, j.down⟩, lastN j.live + 1, 0)
    | (d', false) => (d', ⟨j.live, j.life, j.mended, true⟩, 0, 420)
theorem ajobs_drop {n : Nat} {r : Rc} {i : Nat} (h : i < 2 * r.h.total) : (List.range' i (2 * r.h.total - i)).map (ajob n r) = ajob n r i :: (List.range' (i + 1) (2 * r.h.total - (i + 1))).map (ajob n r) := by
  obtain ⟨m, hm⟩ : ∃ m, 2 * r.h.total - i = m + 1 := ⟨2 * r.h.total - i - 1, by omega⟩
  rw [hm, List.range'_succ, List.map_cons, show 2 * r.h.total - (i + 1) = m by omega]
theorem writeL_no {i : Nat} {b : List Nat} {l : List (Nat × List Nat)} {d : Dk} (h : (d.write ((i : Nat) : Int) b).2 = false) : writeL ((i, b) :: l) d = ((d.write ((i : Nat) : Int) b).1, false) := by simp only [writeL, h, Bool.false_eq_true, if_false]
theorem writeL_yes {i : Nat} {b : List Nat} {l : List (Nat × List Nat)} {d : Dk} (h : (d.write ((i : Nat) : Int) b).2 = true) : writeL ((i, b) :: l) d = writeL l (d.write ((i : Nat) : Int) b).1 := by simp only [writeL, h, if_true]
theorem newAt_lt {n : Nat} {l : List Rc} (h : 0 < n) : newAt n l < n := by unfold newAt; split; exact h; exact Nat.mod_lt _ h
def WSt (n : Nat) (r : Rc) (i : Nat) (d : Dk) (T : Dk × Bool) : Prop := writeL ((List.range' i (2 * r.h.total - i)).map (ajob n r)) d = T
theorem WSt.start {n : Nat} {r : Rc} {d : Dk} : WSt n r 0 d (writeL (ajobs n r) d) := by unfold WSt ajobs; rw [List.range_eq_range']; rfl
theorem WSt.no {n : Nat} {r : Rc} {i : Nat} {d : Dk} {T : Dk × Bool} (h : WSt n r i d T) (hi : i < 2 * r.h.total) (hw : (d.write (((ajob n r i).1 : Nat) : Int) (ajob n r i).2).2 = false) : T = ((d.write (((ajob n r i).1 : Nat) : Int) (ajob n r i).2).1, false) := by
  unfold WSt at h
  rw [ajobs_drop hi] at h
  rw [← h]; exact writeL_no hw
theorem WSt.yes {n : Nat} {r : Rc} {i : Nat} {d : Dk} {T : Dk × Bool} (h : WSt n r i d T) (hi : i < 2 * r.h.total) (hw : (d.write (((ajob n r i).1 : Nat) : Int) (ajob n r i).2).2 = true) : WSt n r (i + 1) (d.write (((ajob n r i).1 : Nat) : Int) (ajob n r i).2).1 T := by
  unfold WSt at h ⊢
  rw [ajobs_drop hi] at h
  rw [← h]; exact (writeL_yes hw).symm
theorem WSt.done {n : Nat} {r : Rc} {i : Nat} {d : Dk} {T : Dk × Bool} (h : WSt n r i d T) (hi : 2 * r.h.total ≤ i) : T = (d, true) := by
  unfold WSt at h
  rw [show 2 * r.h.total - i = 0 by omega] at h
  rw [← h]; rfl
theorem appendL_w {d d' : Dk} {j : Jn} {rec : List Nat} {f : Nat} {b : Bool} (h1 : j.down = false) (h2 : ¬ 4032 < rec.length) (h3 : ¬ (((f : Nat) : Int) < (firstN j.live : Int) ∨ (lastN j.live : Int) + 1 < ((f : Nat) : Int))) (h4 : ¬ (freeI d.n j.live < (cntL rec.length : Int) ∨ 4294967295 < lastN j.live + 1)) (hw : writeL (ajobs d.n (newR d.n j rec f)) d = (d', b)) :
    appendL d j rec ((f : Nat) : Int) = if b then (d', ⟨j.live.drop (f - firstN j.live) ++ [newR d.n j rec f], j.life, j.mended, j.down⟩, lastN j.live + 1, 0) else (d', ⟨j.live, j.life, j.mended, true⟩, 0, 420) := by
  unfold appendL
  rw [if_neg (by rw [h1]; decide), if_neg h2, if_neg h3, if_neg h4, Int.toNat_natCast, hw]
  cases b <;> rfl
theorem JM.upV {w w' : World} {pj pd : Nat} {vl x : Value} {us : List Value} {j : Jn} (h : JM w pj pd vl us j) (u : Upd (fun b => vblk x = some b) w w') (hx : ∀ b, vblk x = some b → ¬ JB pj vl us b) : JM w' pj pd vl us j := h.up u hx
def AB (pj p : Nat) (vb vd : Value) (x : Nat) : Prop := x = pj ∨ DB p vb vd x
theorem JM.rows' {w : World} {pj pd : Nat} {vl : Value} {us : List Value} {j : Jn} (h : JM w pj pd vl us j) : ∀ u ∈ us, u.oneCell' = true := fun u hu => by
  obtain ⟨i, hi, rfl⟩ := List.mem_iff_getElem.1 hu
  have h9 := h.rows i (by have := h.len; omega)
  rw [List.getD_eq_getElem?_getD, List.getElem?_eq_getElem hi] at h9
  exact h9.one
theorem rows_snoc {w : World} {u : Value} {us : List Value} {y : Rc} {l : List Rc} {m : Nat} (hl : us.length = l.length) (h0 : SU8s w u y.dat) (hr : ∀ i, i < l.length → SU8s w (us.getD i undef) (l.getD i Rc0).dat) : ∀ i, i < (l.drop m ++ [y]).length → SU8s w ((us.drop m ++ [u]).getD i undef) ((l.drop m ++ [y]).getD i Rc0).dat := by
  intro i hi
  simp only [List.length_append, List.length_drop, List.length_cons, List.length_nil] at hi
  simp only [List.getD_eq_getElem?_getD]
  rcases Nat.lt_or_ge i (l.length - m) with h1 | h1
  · rw [List.getElem?_append_left (by simp; omega), List.getElem?_append_left (by simp; omega), List.getElem?_drop, List.getElem?_drop]
    have := hr (m + i) (by omega)
    simpa only [List.getD_eq_getElem?_getD] using this
  · have e1 : i - (us.drop m).length = 0 := by simp; omega
    have e2 : i - (l.drop m).length = 0 := by simp; omega
    rw [List.getElem?_append_right (by simp; omega), List.getElem?_append_right (by simp; omega), e1, e2]
    exact h0
theorem bld103_0_1_3 {x0 x1 x3 : Value} (hx0 : x0.oneCell' = true) (hx1 : x1.oneCell' = true) (hx3 : x3.oneCell' = true) (w : World) : (Instr.build 103 #[(0, x0), (1, x1), (3, x3)]).run Try.prog w = .ok (.agg #[x0, x1, (.int .i64 0), x3]) w := by
  simp [Instr.build, t103.zero, underlying, Try.underlying103, Instr.fill, cells_agg, t3.sizeOf, cells_one hx0, cells_one hx1, cells_one hx3]
theorem bld106_0_2 {x0_0 x0_1 x0_2 x0_3 x2 : Value} (hx2 : x2.oneCell' = true) (w : World) : (Instr.build 106 #[(0, .agg #[x0_0, x0_1, x0_2, x0_3]), (2, x2)]).run Try.prog w = .ok (.agg #[x0_0, x0_1, x0_2, x0_3, (.int .i64 0), x2]) w := by
  simp [Instr.build, t106.zero, underlying, Try.underlying106, Instr.fill, cells_agg, t55.sizeOf, t103.sizeOf, cells_one hx2]
theorem cloneR_ (w : World) {v : Value} {us : List Value} {l : List Rc} (h : Row w 6 v l.length (recsC us l)) (hus : us.length = l.length) (h1 : ∀ u ∈ us, u.oneCell' = true) (hl : l.length ≤ 10000) :
    Calls Try.prog 55 #[v] w (Ret fun r w' => Ext w w' ∧ Sl w' 106 6 r l.length (recsC us l) ∧ Fresh w r) := by
  refine calls_E (args := [v]) 8 Try.func55 rfl rfl (by simp) ?_
  have hE : Ext w w := Upd.refl w
  refine E.seq ?_
  refine E.regionP rfl ?_
  refine R.assign ?_
  refine R.nil ?_
  refine E.seq ?_
  refine E.seq ?_
  refine E.regionP rfl ?_
  refine R.move ?_
  refine R.eqNil Try.underlying84 h rfl (fun q4 hq4 hn4 => ?_)
  refine R.nil ?_
  refine E.cond (b := q4) rfl (fun hc4 => ?_) (fun hc4 => ?_)
  · refine E.seq ?_
    refine E.regionP rfl ?_
    refine R.assign ?_
    refine R.nil ?_
    refine E.ret ?_
    refine ret1 (.slice none 0 0) rfl rfl ⟨_, rfl, ?_⟩
    refine ⟨hE, ?_, Fresh.nil _⟩
    have e := (hq4 hc4).2
    have e2 := recsC_len hus
    rw [e] at e2
    have e3 : l.length = 0 := by simp at e2; omega
    rw [e, e3]
    exact Sl.nil _ _ _
  · refine E.skip ?_
    refine E.seq ?_
    refine E.regionP rfl ?_
    refine R.buildSlice [] Try.underlying84 t106 rfl rfl (by simp [Value.cells]) (by simp) nofun ?_
    intro b5 w1 hb5 hx1 hB5 hS5
    replace hb5 := Nat.le_trans hE.size hb5
    replace hE := hE.ext hx1
    refine R.move ?_
    refine R.append Try.underlying84 Try.underlying84 t106 (by decide) rfl hS5 (h.ext hE) (recs_one h1) rfl rfl (by simp; omega) (by simp; omega) nofun ?_
    intro v7 w2 hU2 hS7 hd2
    have hF7 := Fresh.app hE (fun b hb => by have e : b5 = b := Option.some.inj hb; omega) hd2
    replace hE := hE.app hU2 (fun b hb => by have e : b5 = b := Option.some.inj hb; omega)
    refine R.assign ?_
    refine R.nil ?_
    refine E.ret ?_
    refine ret1 (v7) rfl rfl ⟨_, rfl, ?_⟩
    refine ⟨hE, ?_, hF7⟩
    have e : Sl w2 106 6 v7 (0 + l.length) ([] ++ recsC us l) := hS7
    rw [Nat.zero_add, List.nil_append] at e
    exact e
theorem appendNeg (w : World) {b901 b900 : Nat} {v vl vb vd : Value} {us : List Value} {j : Jn} {d : Dk} {rec : List Nat} {first : Int} (hD : DM w b900 vb vd d) (hJ : JM w b901 b900 vl us j) (hr : RU8 w v rec) (_hrb : ∀ x ∈ rec, x < 256) (hO : JOK j) (_hat : ∀ i, i < j.live.length → (j.live.getD i Rc0).at_ ≤ 1000000) (hrl : rec.length ≤ 100000) (_hpw : d.pw ≤ 9223372036854775807) (hneg : first < 0) :
    Calls Try.prog 36 #[.pointer (some ⟨b901, 0, none⟩), v, .int .i64 first] w (Ret fun r w' => Upd (AB b901 b900 vb vd) w w' ∧ DM w' b900 vb vd (appendL d j rec first).1 ∧ (∃ vl us, JM w' b901 b900 vl us (appendL d j rec first).2.1) ∧ r = .tuple #[.int .i64 (((appendL d j rec first).2.2.1 : Nat) : Int), .int .i64 (((appendL d j rec first).2.2.2 : Nat) : Int)]) := by
  have hnl := d.n_le
  have hll := hO.len
  have hmx := hO.max
  have hla := hO.last
  have hfu : freeI d.n j.live ≤ 1000 := by unfold freeI; omega
  refine calls_E (args := [.pointer (some ⟨b901, 0, none⟩), v, .int .i64 (first)]) 156 Try.func36 rfl rfl (by simp) ?_
  have hE : Upd (AB b901 b900 vb vd) w w := Upd.refl w
  refine E.seq ?_
  refine E.regionP rfl ?_
  refine R.assign ?_
  refine R.assign ?_
  refine R.nil ?_
  refine E.seq ?_
  refine E.regionP rfl ?_
  refine R.move ?_
  refine R.len Try.underlying55 hr.row rfl ?_
  refine R.addN (m := rec.length) (n := 48) rfl rfl (by omega) ?_
  refine R.subN (m := (rec.length + 48)) (n := 1) rfl rfl (by omega) (by omega) ?_
  refine R.quoN (m := ((rec.length + 48) - 1)) (n := 48) rfl rfl (by omega) (by omega) ?_
  refine R.maxN (m := 1) (n := (rec.length + 48 - 1) / 48) rfl rfl ?_
  refine R.move ?_
  refine R.callE1 ent37 (lastN_ _ hJ hO.len) rfl nofun ?_
  rintro v21 w1 hx1 rfl
  replace hD := hD.ext hx1
  replace hJ := hJ.ext hx1
  replace hr := hr.ext hx1
  replace hE := hE.ext hx1
  refine R.addN (m := ((lastN j.live))) (n := 1) rfl rfl (by omega) ?_
  refine R.move ?_
  refine R.build (bld103_0_1_3 rfl rfl rfl) rfl ?_
  refine R.alloc t103 nofun ?_
  intro b8 w2 hb8 hx2 hB8
  replace hb8 := Nat.le_trans hE.size hb8
  replace hD := hD.ext hx2
  replace hJ := hJ.ext hx2
  replace hr := hr.ext hx2
  replace hE := hE.ext hx2
  replace hB8 : Blk _ b8 103 #[.int .i64 ((0 : Nat) : Int), .int .i64 ((0 : Nat) : Int), .int .i64 ((0 : Nat) : Int), .int .i64 ((0 : Nat) : Int)] := hB8
  refine R.storeA t103 hB8 rfl rfl rfl rfl (ones4 rfl rfl rfl rfl) nofun ?_
  intro w3 hU3 hs3 hN3
  replace hD := hD.upT hU3 hB8 (by decide)
  replace hJ := hJ.upT hU3 hB8 (by decide)
  replace hr := hr.upT hU3 hB8 (by decide)
  replace hE := hE.own hU3 hb8
  replace hB8 : Blk _ b8 103 #[.int .i64 ((cntL rec.length : Nat) : Int), .int .i64 ((((lastN j.live)) + 1 : Nat) : Int), .int .i64 ((0 : Nat) : Int), .int .i64 (first)] := hN3
  clear hN3
  refine R.nil ?_
  refine E.seq ?_
  refine E.block ?_
  refine E.seq ?_
  refine E.regionP rfl ?_
  refine R.move ?_
  refine R.callE1 ent51 (there_ _ hJ) rfl nofun ?_
  rintro v27 w4 hx4 rfl
  replace hD := hD.ext hx4
  replace hJ := hJ.ext hx4
  replace hr := hr.ext hx4
  replace hB8 := hB8.ext hx4
  replace hE := hE.ext hx4
  refine R.not rfl ?_
  refine R.assign ?_
  refine R.nil ?_
  refine E.condF rfl ?_
  refine E.seq ?_
  refine E.forget [(0, .pointer (some ⟨b901, 0, none⟩)), (1, v), (2, .int .i64 (first)), (8, .pointer (some ⟨b8, 0, none⟩))] ⟨rfl, rfl, rfl, rfl, trivial⟩ (fun e => ?_)
  refine E.regionP rfl ?_
  refine R.move ?_
  refine R.nilCheck rfl ?_
  refine R.fld fa86_4 rfl ?_
  refine R.loadB t4 hJ.blk rfl rfl rfl trivial ?_
  refine R.assign ?_
  refine R.nil ?_
  refine E.cond (b := j.down) rfl (fun hc29 => ?_) (fun hc29 => ?_)
  · refine E.seq ?_
    refine E.regionP rfl ?_
    refine R.assign ?_
    refine R.assign ?_
    refine R.nil ?_
    refine E.ret ?_
    refine ret2 (.int .i64 ((0 : Nat) : Int)) (.int .i64 ((420 : Nat) : Int)) rfl rfl rfl ⟨_, rfl, ?_⟩
    refine ⟨hE, ?_⟩
    have hap : appendL d j rec first = (d, j, 0, 420) := by unfold appendL; rw [if_pos hc29]
    rw [hap]
    exact ⟨hD, ⟨_, _, hJ⟩, rfl⟩
  · refine E.seq ?_
    refine E.regionP rfl ?_
    refine R.move ?_
    refine R.len Try.underlying55 hr.row rfl ?_
    refine R.gtr (b := decide ((((4032 : Nat) : Int)) < (((rec.length : Nat) : Int)))) rfl rfl rfl ?_
    refine R.assign ?_
    refine R.nil ?_
    refine E.cond (b := decide ((((4032 : Nat) : Int)) < (((rec.length : Nat) : Int)))) rfl (fun hc34 => ?_) (fun hc34 => ?_)
    · replace hc34 := dT hc34
      refine E.seq ?_
      refine E.forget [] trivial (fun e => ?_)
      refine E.regionP rfl ?_
      refine R.assign ?_
      refine R.assign ?_
      refine R.nil ?_
      refine E.ret ?_
      refine ret2 (.int .i64 ((0 : Nat) : Int)) (.int .i64 ((3 : Nat) : Int)) rfl rfl rfl ⟨_, rfl, ?_⟩
      refine ⟨hE, ?_⟩
      have hap : appendL d j rec first = (d, j, 0, 3) := by unfold appendL; rw [if_neg (by rw [hc29]; decide), if_pos (by omega)]
      rw [hap]
      exact ⟨hD, ⟨_, _, hJ⟩, rfl⟩
    · replace hc34 := dF hc34
      refine E.seq ?_
      refine E.regionP rfl ?_
      refine R.move ?_
      refine R.move ?_
      refine R.callE1 ent40 (first_ _ hJ hO.len) rfl nofun ?_
      rintro v41 w5 hx5 rfl
      replace hD := hD.ext hx5
      replace hJ := hJ.ext hx5
      replace hr := hr.ext hx5
      replace hB8 := hB8.ext hx5
      replace hE := hE.ext hx5
      refine R.lss (b := true) rfl rfl (decide_eq_true (by omega)) ?_
      refine R.move ?_
      refine R.gF rfl rfl rfl ?_
      refine R.gF rfl rfl rfl ?_
      refine R.gF rfl rfl rfl ?_
      refine R.gF rfl rfl rfl ?_
      refine R.pickT rfl ?_
      refine R.assign ?_
      refine R.nil ?_
      refine E.condT rfl ?_
      refine E.seq ?_
      refine E.forget [] trivial (fun e => ?_)
      refine E.regionP rfl ?_
      refine R.assign ?_
      refine R.assign ?_
      refine R.nil ?_
      refine E.ret ?_
      refine ret2 (.int .i64 ((0 : Nat) : Int)) (.int .i64 ((2 : Nat) : Int)) rfl rfl rfl ⟨_, rfl, ?_⟩
      refine ⟨hE, ?_⟩
      have hap : appendL d j rec first = (d, j, 0, 2) := by unfold appendL; rw [if_neg (by rw [hc29]; decide), if_neg (by omega), if_pos (by omega)]
      rw [hap]
      exact ⟨hD, ⟨_, _, hJ⟩, rfl⟩
set_option maxHeartbeats 1600000 in
theorem appendPos (w : World) {b901 b900 : Nat} {v vl vb vd : Value} {us : List Value} {j : Jn} {d : Dk} {rec : List Nat} {f : Nat} (hD : DM w b900 vb vd d) (hJ : JM w b901 b900 vl us j) (hr : RU8 w v rec) (hrb : ∀ x ∈ rec, x < 256) (hO : JOK j) (hat : ∀ i, i < j.live.length → (j.live.getD i Rc0).at_ ≤ 1000000) (hrl : rec.length ≤ 100000) (hpw : d.pw ≤ 9223372036854775807) (hfb : f ≤ 9223372036854775807) :
    Calls Try.prog 36 #[.pointer (some ⟨b901, 0, none⟩), v, .int .i64 ((f : Nat) : Int)] w (Ret fun r w' => Upd (AB b901 b900 vb vd) w w' ∧ DM w' b900 vb vd (appendL d j rec ((f : Nat) : Int)).1 ∧ (∃ vl us, JM w' b901 b900 vl us (appendL d j rec ((f : Nat) : Int)).2.1) ∧ r = .tuple #[.int .i64 (((appendL d j rec ((f : Nat) : Int)).2.2.1 : Nat) : Int), .int .i64 (((appendL d j rec ((f : Nat) : Int)).2.2.2 : Nat) : Int)]) := by
  have hnl := d.n_le
  have hll := hO.len
  have hmx := hO.max
  have hla := hO.last
  have hfu : freeI d.n j.live ≤ 1000 := by unfold freeI; omega
  refine calls_E (args := [.pointer (some ⟨b901, 0, none⟩), v, .int .i64 ((f : Nat) : Int)]) 156 Try.func36 rfl rfl (by simp) ?_
  have hE : Upd (AB b901 b900 vb vd) w w := Upd.refl w
  refine E.seq ?_
  refine E.regionP rfl ?_
  refine R.assign ?_
  refine R.assign ?_
  refine R.nil ?_
  refine E.seq ?_
  refine E.regionP rfl ?_
  refine R.move ?_
  refine R.len Try.underlying55 hr.row rfl ?_
  refine R.addN (m := rec.length) (n := 48) rfl rfl (by omega) ?_
  refine R.subN (m := (rec.length + 48)) (n := 1) rfl rfl (by omega) (by omega) ?_
  refine R.quoN (m := ((rec.length + 48) - 1)) (n := 48) rfl rfl (by omega) (by omega) ?_
  refine R.maxN (m := 1) (n := (rec.length + 48 - 1) / 48) rfl rfl ?_
  refine R.move ?_
  refine R.callE1 ent37 (lastN_ _ hJ hO.len) rfl nofun ?_
  rintro v21 w1 hx1 rfl
  replace hD := hD.ext hx1
  replace hJ := hJ.ext hx1
  replace hr := hr.ext hx1
  replace hE := hE.ext hx1
  refine R.addN (m := ((lastN j.live))) (n := 1) rfl rfl (by omega) ?_
  refine R.move ?_
  refine R.build (bld103_0_1_3 rfl rfl rfl) rfl ?_
  refine R.alloc t103 nofun ?_
  intro b8 w2 hb8 hx2 hB8
  replace hb8 := Nat.le_trans hE.size hb8
  replace hD := hD.ext hx2
  replace hJ := hJ.ext hx2
  replace hr := hr.ext hx2
  replace hE := hE.ext hx2
  replace hB8 : Blk _ b8 103 #[.int .i64 ((0 : Nat) : Int), .int .i64 ((0 : Nat) : Int), .int .i64 ((0 : Nat) : Int), .int .i64 ((0 : Nat) : Int)] := hB8
  refine R.storeA t103 hB8 rfl rfl rfl rfl (ones4 rfl rfl rfl rfl) nofun ?_
  intro w3 hU3 hs3 hN3
  replace hD := hD.upT hU3 hB8 (by decide)
  replace hJ := hJ.upT hU3 hB8 (by decide)
  replace hr := hr.upT hU3 hB8 (by decide)
  replace hE := hE.own hU3 hb8
  replace hB8 : Blk _ b8 103 #[.int .i64 ((cntL rec.length : Nat) : Int), .int .i64 ((((lastN j.live)) + 1 : Nat) : Int), .int .i64 ((0 : Nat) : Int), .int .i64 ((f : Nat) : Int)] := hN3
  clear hN3
  refine R.nil ?_
  refine E.seq ?_
  refine E.block ?_
  refine E.seq ?_
  refine E.regionP rfl ?_
  refine R.move ?_
  refine R.callE1 ent51 (there_ _ hJ) rfl nofun ?_
  rintro v27 w4 hx4 rfl
  replace hD := hD.ext hx4
  replace hJ := hJ.ext hx4
  replace hr := hr.ext hx4
  replace hB8 := hB8.ext hx4
  replace hE := hE.ext hx4
  refine R.not rfl ?_
  refine R.assign ?_
  refine R.nil ?_
  refine E.condF rfl ?_
  refine E.seq ?_
  refine E.forget [(0, .pointer (some ⟨b901, 0, none⟩)), (1, v), (2, .int .i64 ((f : Nat) : Int)), (8, .pointer (some ⟨b8, 0, none⟩))] ⟨rfl, rfl, rfl, rfl, trivial⟩ (fun e => ?_)
  refine E.regionP rfl ?_
  refine R.move ?_
  refine R.nilCheck rfl ?_
  refine R.fld fa86_4 rfl ?_
  refine R.loadB t4 hJ.blk rfl rfl rfl trivial ?_
  refine R.assign ?_
  refine R.nil ?_
  refine E.cond (b := j.down) rfl (fun hc29 => ?_) (fun hc29 => ?_)
  · refine E.seq ?_
    refine E.regionP rfl ?_
    refine R.assign ?_
    refine R.assign ?_
    refine R.nil ?_
    refine E.ret ?_
    refine ret2 (.int .i64 ((0 : Nat) : Int)) (.int .i64 ((420 : Nat) : Int)) rfl rfl rfl ⟨_, rfl, ?_⟩
    refine ⟨hE, ?_⟩
    have hap : appendL d j rec ((f : Nat) : Int) = (d, j, 0, 420) := by unfold appendL; rw [if_pos hc29]
    rw [hap]
    exact ⟨hD, ⟨_, _, hJ⟩, rfl⟩
  · refine E.seq ?_
    refine E.regionP rfl ?_
    refine R.move ?_
    refine R.len Try.underlying55 hr.row rfl ?_
    refine R.gtr (b := decide ((((4032 : Nat) : Int)) < (((rec.length : Nat) : Int)))) rfl rfl rfl ?_
    refine R.assign ?_
    refine R.nil ?_
    refine E.cond (b := decide ((((4032 : Nat) : Int)) < (((rec.length : Nat) : Int)))) rfl (fun hc34 => ?_) (fun hc34 => ?_)
    · replace hc34 := dT hc34
      refine E.seq ?_
      refine E.forget [] trivial (fun e => ?_)
      refine E.regionP rfl ?_
      refine R.assign ?_
      refine R.assign ?_
      refine R.nil ?_
      refine E.ret ?_
      refine ret2 (.int .i64 ((0 : Nat) : Int)) (.int .i64 ((3 : Nat) : Int)) rfl rfl rfl ⟨_, rfl, ?_⟩
      refine ⟨hE, ?_⟩
      have hap : appendL d j rec ((f : Nat) : Int) = (d, j, 0, 3) := by unfold appendL; rw [if_neg (by rw [hc29]; decide), if_pos (by omega)]
      rw [hap]
      exact ⟨hD, ⟨_, _, hJ⟩, rfl⟩
    · replace hc34 := dF hc34
      refine E.seq ?_
      refine E.regionP rfl ?_
      refine R.move ?_
      refine R.move ?_
      refine R.callE1 ent40 (first_ _ hJ hO.len) rfl nofun ?_
      rintro v41 w5 hx5 rfl
      replace hD := hD.ext hx5
      replace hJ := hJ.ext hx5
      replace hr := hr.ext hx5
      replace hB8 := hB8.ext hx5
      replace hE := hE.ext hx5
      refine R.lss (b := decide ((((f : Nat) : Int)) < ((((firstN j.live) : Nat) : Int)))) rfl rfl rfl ?_
      refine R.move ?_
      have hg43 := Bool.eq_false_or_eq_true (decide ((((f : Nat) : Int)) < ((((firstN j.live) : Nat) : Int))))
      rcases hg43 with hg43 | hg43
      · have hg43q := hg43
        replace hg43 := dT hg43
        refine R.gF rfl (congrArg Value.bool hg43q) rfl ?_
        refine R.gF rfl (congrArg Value.bool hg43q) rfl ?_
        refine R.gF rfl (congrArg Value.bool hg43q) rfl ?_
        refine R.gF rfl (congrArg Value.bool hg43q) rfl ?_
        refine R.pickT (congrArg Value.bool hg43q) ?_
        refine R.assign ?_
        refine R.nil ?_
        refine E.condT rfl ?_
        refine E.seq ?_
        refine E.forget [] trivial (fun e => ?_)
        refine E.regionP rfl ?_
        refine R.assign ?_
        refine R.assign ?_
        refine R.nil ?_
        refine E.ret ?_
        refine ret2 (.int .i64 ((0 : Nat) : Int)) (.int .i64 ((2 : Nat) : Int)) rfl rfl rfl ⟨_, rfl, ?_⟩
        refine ⟨hE, ?_⟩
        have hap : appendL d j rec ((f : Nat) : Int) = (d, j, 0, 2) := by unfold appendL; rw [if_neg (by rw [hc29]; decide), if_neg (by omega), if_pos (by omega)]
        rw [hap]
        exact ⟨hD, ⟨_, _, hJ⟩, rfl⟩
      · have hg43q := hg43
        replace hg43 := dF hg43
        refine R.gT rfl (congrArg Value.bool hg43q) ?_
        refine R.move ?_
        refine R.gT rfl (congrArg Value.bool hg43q) ?_
        refine R.fld fa103_1 rfl ?_
        refine R.gT rfl (congrArg Value.bool hg43q) ?_
        refine R.loadB t3 hB8 rfl rfl rfl trivial ?_
        refine R.gT rfl (congrArg Value.bool hg43q) ?_
        refine R.gtr (b := decide ((((((lastN j.live)) + 1 : Nat) : Int)) < (((f : Nat) : Int)))) rfl rfl rfl ?_
        refine R.pickF (congrArg Value.bool hg43q) ?_
        refine R.assign ?_
        refine R.nil ?_
        refine E.cond (b := decide ((((((lastN j.live)) + 1 : Nat) : Int)) < (((f : Nat) : Int)))) rfl (fun hc38 => ?_) (fun hc38 => ?_)
        · replace hc38 := dT hc38
          refine E.seq ?_
          refine E.forget [] trivial (fun e => ?_)
          refine E.regionP rfl ?_
          refine R.assign ?_
          refine R.assign ?_
          refine R.nil ?_
          refine E.ret ?_
          refine ret2 (.int .i64 ((0 : Nat) : Int)) (.int .i64 ((2 : Nat) : Int)) rfl rfl rfl ⟨_, rfl, ?_⟩
          refine ⟨hE, ?_⟩
          have hap : appendL d j rec ((f : Nat) : Int) = (d, j, 0, 2) := by unfold appendL; rw [if_neg (by rw [hc29]; decide), if_neg (by omega), if_pos (by omega)]
          rw [hap]
          exact ⟨hD, ⟨_, _, hJ⟩, rfl⟩
        · replace hc38 := dF hc38
          refine E.seq ?_
          refine E.forget [(0, .pointer (some ⟨b901, 0, none⟩)), (1, v), (2, .int .i64 ((f : Nat) : Int)), (8, .pointer (some ⟨b8, 0, none⟩))] ⟨rfl, rfl, rfl, rfl, trivial⟩ (fun e => ?_)
          refine E.regionW (fun c x => x < w5.heap.size ∧ (c = false → True)) []  mixed rfl (by kernel_rfl) ?_
          intro w6 hx6 hh6
          replace hD := hD.ext hx6
          replace hJ := hJ.ext hx6
          replace hr := hr.ext hx6
          replace hB8 := hB8.ext hx6
          replace hE := hE.ext hx6
          have hEs : Ext w6 w6 := Upd.refl _
          have hS0 := hx6.size
          have hSB : ∀ b, b < w6.heap.size → b < w5.heap.size ∧ (true = false → (fun x => True) b) := fun b hb => ⟨by rw [hh6] at hb; exact hb, nofun⟩
          have hSA : ∀ b, b < w6.heap.size → (fun x => True) b → b < w5.heap.size ∧ (false = false → (fun x => True) b) := fun b hb h => ⟨by rw [hh6] at hb; exact hb, fun _ => h⟩
          have hSO : ∀ b, b < w.heap.size → b < w5.heap.size ∧ (false = false → (fun x => True) b) := fun b hb => hSA b (Nat.lt_of_lt_of_le hb hE.size) (trivial)
          have hDs := hD
          have hJs := hJ
          have hrs := hr
          have hB8s := hB8
          refine R.fld fa103_0 rfl ?_
          refine R.loadB t3 hB8 rfl rfl rfl (hSA b8 hB8s.lt (trivial)) ?_
          refine R.move ?_
          refine R.callE1 ent52 (free_ _ hD hJ hO) rfl (fun _ _ hb => Nat.lt_of_lt_of_le hb.1 (Nat.le_trans hS0 hEs.size)) ?_
          rintro v53 w7 hx7 rfl
          replace hD := hD.ext hx7
          replace hJ := hJ.ext hx7
          replace hr := hr.ext hx7
          replace hB8 := hB8.ext hx7
          replace hE := hE.ext hx7
          replace hEs := hEs.ext hx7
          refine R.gtr (b := decide (((freeI d.n j.live)) < (((cntL rec.length : Nat) : Int)))) rfl rfl rfl ?_
          refine R.move ?_
          have hg55 := Bool.eq_false_or_eq_true (decide (((freeI d.n j.live)) < (((cntL rec.length : Nat) : Int))))
          rcases hg55 with hg55 | hg55
          · have hg55q := hg55
            replace hg55 := dT hg55
            refine R.gF rfl (congrArg Value.bool hg55q) rfl ?_
            refine R.gF rfl (congrArg Value.bool hg55q) rfl ?_
            refine R.gF rfl (congrArg Value.bool hg55q) rfl ?_
            refine R.pickT (congrArg Value.bool hg55q) ?_
            refine R.assign ?_
            refine R.nil ?_
            refine E.condT rfl ?_
            refine E.seq ?_
            refine E.forget [] trivial (fun e => ?_)
            refine E.regionP rfl ?_
            refine R.assign ?_
            refine R.assign ?_
            refine R.nil ?_
            refine E.ret ?_
            refine ret2 (.int .i64 ((0 : Nat) : Int)) (.int .i64 ((4 : Nat) : Int)) rfl rfl rfl ⟨_, rfl, ?_⟩
            refine ⟨hE, ?_⟩
            have hap : appendL d j rec ((f : Nat) : Int) = (d, j, 0, 4) := by unfold appendL; rw [if_neg (by rw [hc29]; decide), if_neg (by omega), if_neg (by omega), if_pos (by have : cntL rec.length = max 1 ((rec.length + 48 - 1) / 48) := rfl; omega)]
            rw [hap]
            exact ⟨hD, ⟨_, _, hJ⟩, rfl⟩
          · have hg55q := hg55
            replace hg55 := dF hg55
            refine R.gT rfl (congrArg Value.bool hg55q) ?_
            refine R.fld fa103_1 rfl ?_
            refine R.gT rfl (congrArg Value.bool hg55q) ?_
            refine R.loadB t3 hB8 rfl rfl rfl (hSA b8 hB8s.lt (trivial)) ?_
            refine R.gT rfl (congrArg Value.bool hg55q) ?_
            refine R.gtr (b := decide ((((4294967295 : Nat) : Int)) < (((((lastN j.live)) + 1 : Nat) : Int)))) rfl rfl rfl ?_
            refine R.pickF (congrArg Value.bool hg55q) ?_
            refine R.assign ?_
            refine R.nil ?_
            refine E.cond (b := decide ((((4294967295 : Nat) : Int)) < (((((lastN j.live)) + 1 : Nat) : Int)))) rfl (fun hc49 => ?_) (fun hc49 => ?_)
            · replace hc49 := dT hc49
              refine E.seq ?_
              refine E.forget [] trivial (fun e => ?_)
              refine E.regionP rfl ?_
              refine R.assign ?_
              refine R.assign ?_
              refine R.nil ?_
              refine E.ret ?_
              refine ret2 (.int .i64 ((0 : Nat) : Int)) (.int .i64 ((4 : Nat) : Int)) rfl rfl rfl ⟨_, rfl, ?_⟩
              refine ⟨hE, ?_⟩
              have hap : appendL d j rec ((f : Nat) : Int) = (d, j, 0, 4) := by unfold appendL; rw [if_neg (by rw [hc29]; decide), if_neg (by omega), if_neg (by omega), if_pos (by have : cntL rec.length = max 1 ((rec.length + 48 - 1) / 48) := rfl; omega)]
              rw [hap]
              exact ⟨hD, ⟨_, _, hJ⟩, rfl⟩
            · replace hc49 := dF hc49
              refine E.skip ?_
              refine E.seq ?_
              refine E.forget [(0, .pointer (some ⟨b901, 0, none⟩)), (1, v), (2, .int .i64 ((f : Nat) : Int)), (8, .pointer (some ⟨b8, 0, none⟩))] ⟨rfl, rfl, rfl, rfl, trivial⟩ (fun e => ?_)
              have hc1 : 1 ≤ cntL rec.length := by unfold cntL; omega
              have hn0 : 0 < d.n := by unfold freeI at hg55; omega
              have hc2 : cntL rec.length ≤ 84 := by unfold cntL; omega
              have hce : cntL rec.length = max 1 ((rec.length + 48 - 1) / 48) := rfl
              have hna := newAt_lt (l := j.live) hn0
              refine E.regionP rfl ?_
              refine R.move ?_
              refine R.nilCheck rfl ?_
              refine R.fld fa86_2 rfl ?_
              refine R.loadB t3 hJ.blk rfl rfl rfl trivial ?_
              refine R.fld fa103_2 rfl ?_
              refine R.store t3 hB8 rfl rfl (rfl) (by simp) nofun ?_
              intro w8 hU8 hs8 hN8
              replace hD := hD.upT hU8 hB8 (by decide)
              replace hJ := hJ.upT hU8 hB8 (by decide)
              replace hr := hr.upT hU8 hB8 (by decide)
              replace hE := hE.own hU8 hb8
              replace hB8 : Blk _ b8 103 #[.int .i64 ((cntL rec.length : Nat) : Int), .int .i64 ((((lastN j.live)) + 1 : Nat) : Int), .int .i64 ((j.life : Nat) : Int), .int .i64 ((f : Nat) : Int)] := hN8
              clear hN8
              refine R.nil ?_
              refine E.seq ?_
              refine E.regionP rfl ?_
              refine R.move ?_
              refine R.nilCheck rfl ?_
              refine R.fld fa86_0 rfl ?_
              refine R.loadB t32 hJ.blk rfl rfl rfl trivial ?_
              refine R.callE1 ent43 (places_ _ hD) rfl nofun ?_
              rintro v69 w9 hx9 rfl
              replace hD := hD.ext hx9
              replace hJ := hJ.ext hx9
              replace hr := hr.ext hx9
              replace hB8 := hB8.ext hx9
              replace hE := hE.ext hx9
              refine R.assign ?_
              refine R.nil ?_
              refine E.seq ?_
              have hW0 := hE.size
              refine E.regionF (fun c x => x < w9.heap.size ∧ (c = false → True)) [] [72] mixed rfl (by kernel_rfl) (fun _ _ h => h.1) ?_
              intro w10 hx10 hh10
              replace hD := hD.ext hx10
              replace hJ := hJ.ext hx10
              replace hr := hr.ext hx10
              replace hB8 := hB8.ext hx10
              replace hE := hE.ext hx10
              have hEs : Ext w10 w10 := Upd.refl _
              have hS0 := hx10.size
              have hSB : ∀ b, b < w10.heap.size → b < w9.heap.size ∧ (true = false → (fun x => True) b) := fun b hb => ⟨by rw [hh10] at hb; exact hb, nofun⟩
              have hSA : ∀ b, b < w10.heap.size → (fun x => True) b → b < w9.heap.size ∧ (false = false → (fun x => True) b) := fun b hb h => ⟨by rw [hh10] at hb; exact hb, fun _ => h⟩
              have hSO : ∀ b, b < w.heap.size → b < w9.heap.size ∧ (false = false → (fun x => True) b) := fun b hb => hSA b (Nat.lt_of_lt_of_le hb hE.size) (trivial)
              have hDs := hD
              have hJs := hJ
              have hrs := hr
              have hB8s := hB8
              refine G.q rfl (Nat.le_of_ble_eq_true rfl) ?_
              refine R.loadA t103 hB8 rfl rfl rfl (hSA b8 hB8s.lt (trivial)) ?_
              refine R.nil ?_
              refine G.q rfl (Nat.le_of_ble_eq_true rfl) ?_
              refine R.move ?_
              refine R.nil ?_
              refine G.l rfl rfl (.inl rfl) (Nat.le_of_ble_eq_true rfl) ?_
              intro w11 hx11
              replace hD := hD.ext hx11
              replace hJ := hJ.ext hx11
              replace hr := hr.ext hx11
              replace hB8 := hB8.ext hx11
              replace hE := hE.ext hx11
              replace hEs := hEs.ext hx11
              refine R.callE1 ent53 (clone_ _ hr.row (by omega)) rfl (fun _ _ hb => G.S1_lt (fun _ _ h => h.1) (Nat.le_trans hS0 hEs.size) hb) ?_
              rintro v72 w12 hx12 ⟨hS72, hF72⟩
              replace hF72 := hF72.mono hE.size
              replace hD := hD.ext hx12
              replace hJ := hJ.ext hx12
              replace hr := hr.ext hx12
              replace hB8 := hB8.ext hx12
              replace hE := hE.ext hx12
              replace hEs := hEs.ext hx12
              refine R.nil ⟨hx12.size, ?_⟩
              intro K11 hK11 hN11
              refine G.q rfl (Nat.le_of_ble_eq_true rfl) ?_
              refine R.build (bld106_0_2 hS72.one) rfl ?_
              refine R.nil ?_
              refine G.alloc t106 ?_
              intro w13 b10 K13 hx13 hb10 hn10 hK13 hk10 hB10
              have hn_hJ_10 := hJs.new (by rw [hh10]; exact hb10)
              have hn010 := hb10
              replace hb10 := Nat.le_trans hW0 hb10
              replace hD := hD.ext hx13
              replace hJ := hJ.ext hx13
              replace hr := hr.ext hx13
              replace hS72 := hS72.ext hx13
              replace hB8 := hB8.ext hx13
              replace hE := hE.ext hx13
              replace hEs := hEs.ext hx13
              replace hB10 : Blk _ b10 106 #[.int .i64 ((0 : Nat) : Int), .int .i64 ((0 : Nat) : Int), .int .i64 ((0 : Nat) : Int), .int .i64 ((0 : Nat) : Int), .int .i64 ((0 : Nat) : Int), .slice none 0 0] := hB10
              refine G.l rfl rfl (.inr rfl) (Nat.le_of_ble_eq_true rfl) ?_
              intro w14 hx14
              replace hD := hD.ext hx14
              replace hJ := hJ.ext hx14
              replace hr := hr.ext hx14
              replace hS72 := hS72.ext hx14
              replace hB8 := hB8.ext hx14
              replace hB10 := hB10.ext hx14
              replace hE := hE.ext hx14
              replace hEs := hEs.ext hx14
              refine R.storeA t106 hB10 rfl rfl rfl rfl (ones6 rfl rfl rfl rfl rfl hS72.one) (fun _ h => G.S1_new (fun _ _ h => h.1) hn010 hk10 h) ?_
              intro w15 hU15 hs15 hN15
              replace hD := hD.upT hU15 hB10 (by decide)
              replace hJ := hJ.upN hU15 hn_hJ_10
              replace hr := hr.upT hU15 hB10 (by decide)
              replace hS72 := hS72.upT hU15 hB10 (by decide)
              replace hB8 := hB8.upT hU15 hB10 (by decide)
              replace hE := hE.own hU15 hb10
              replace hEs := hEs.trans hU15 (fun c hc h => by have h1 : c = b10 := h; rw [hh10] at hc; omega)
              replace hB10 : Blk _ b10 106 #[.int .i64 ((cntL rec.length : Nat) : Int), .int .i64 ((((lastN j.live)) + 1 : Nat) : Int), .int .i64 ((j.life : Nat) : Int), .int .i64 ((f : Nat) : Int), .int .i64 ((0 : Nat) : Int), v72] := hN15
              clear hN15
              refine R.nil ⟨hU15.size, ?_⟩
              intro K14 hK14 hN14
              replace hk10 := hK14 _ hk10
              refine G.nil ?_
              refine E.seq ?_
              refine E.seq ?_
              refine E.forget [(0, .pointer (some ⟨b901, 0, none⟩)), (1, v), (2, .int .i64 ((f : Nat) : Int)), (8, .pointer (some ⟨b8, 0, none⟩)), (9, .int .i64 ((d.n : Nat) : Int)), (10, .pointer (some ⟨b10, 0, none⟩))] ⟨rfl, rfl, rfl, rfl, rfl, rfl, trivial⟩ (fun e => ?_)
              refine E.regionP rfl ?_
              refine R.move ?_
              refine R.nilCheck rfl ?_
              refine R.fld fa86_1 rfl ?_
              refine R.loadB t84 hJ.blk rfl rfl rfl trivial ?_
              refine R.len Try.underlying84 (show Sl _ 106 6 vl j.live.length (recsC us j.live) from hJ.lv).row rfl ?_
              refine R.gtr (b := decide ((((0 : Nat) : Int)) < (((j.live.length : Nat) : Int)))) rfl rfl rfl ?_
              refine R.nil ?_
              refine E.cutM (fun e wr => DM wr b900 vb vd d ∧ JM wr b901 b900 vl us j ∧ RU8 wr v rec ∧ SU8s wr v72 rec ∧ Blk wr b8 103 #[.int .i64 ((cntL rec.length : Nat) : Int), .int .i64 ((((lastN j.live)) + 1 : Nat) : Int), .int .i64 ((j.life : Nat) : Int), .int .i64 ((f : Nat) : Int)] ∧ Blk wr b10 106 #[.int .i64 ((cntL rec.length : Nat) : Int), .int .i64 ((((lastN j.live)) + 1 : Nat) : Int), .int .i64 ((j.life : Nat) : Int), .int .i64 ((f : Nat) : Int), .int .i64 (((newAt d.n j.live) : Nat) : Int), v72] ∧ Upd (AB b901 b900 vb vd) w wr ∧ Has e [(0, .pointer (some ⟨b901, 0, none⟩)), (1, v), (2, .int .i64 ((f : Nat) : Int)), (8, .pointer (some ⟨b8, 0, none⟩)), (9, .int .i64 ((d.n : Nat) : Int)), (10, .pointer (some ⟨b10, 0, none⟩))]) ?_ ?_
              · refine E.cond (b := decide ((((0 : Nat) : Int)) < (((j.live.length : Nat) : Int)))) rfl (fun hc79 => ?_) (fun hc79 => ?_)
                · replace hc79 := dT hc79
                  refine E.seq ?_
                  have hW0 := hE.size
                  refine E.regionF (fun c x => x < w15.heap.size ∧ (c = false → True)) [] [] mixed rfl (by kernel_rfl) (fun _ _ h => h.1) ?_
                  intro w16 hx16 hh16
                  replace hD := hD.ext hx16
                  replace hJ := hJ.ext hx16
                  replace hr := hr.ext hx16
                  replace hS72 := hS72.ext hx16
                  replace hB8 := hB8.ext hx16
                  replace hB10 := hB10.ext hx16
                  replace hE := hE.ext hx16
                  have hEs : Ext w16 w16 := Upd.refl _
                  have hS0 := hx16.size
                  have hSB : ∀ b, b < w16.heap.size → b < w15.heap.size ∧ (true = false → (fun x => True) b) := fun b hb => ⟨by rw [hh16] at hb; exact hb, nofun⟩
                  have hSA : ∀ b, b < w16.heap.size → (fun x => True) b → b < w15.heap.size ∧ (false = false → (fun x => True) b) := fun b hb h => ⟨by rw [hh16] at hb; exact hb, fun _ => h⟩
                  have hSO : ∀ b, b < w.heap.size → b < w15.heap.size ∧ (false = false → (fun x => True) b) := fun b hb => hSA b (Nat.lt_of_lt_of_le hb hE.size) (trivial)
                  have hDs := hD
                  have hJs := hJ
                  have hrs := hr
                  have hS72s := hS72
                  have hB8s := hB8
                  have hB10s := hB10
                  refine G.q rfl (Nat.le_of_ble_eq_true rfl) ?_
                  refine R.move ?_
                  refine R.nil ?_
                  refine G.q rfl (Nat.le_of_ble_eq_true rfl) ?_
                  refine R.nilCheck rfl ?_
                  refine R.nil ?_
                  refine G.q rfl (Nat.le_of_ble_eq_true rfl) ?_
                  refine R.fld fa86_1 rfl ?_
                  refine R.nil ?_
                  refine G.q rfl (Nat.le_of_ble_eq_true rfl) ?_
                  refine R.loadB t84 hJ.blk rfl rfl rfl (hSA b901 hJs.blk.lt (trivial)) ?_
                  refine R.nil ?_
                  refine G.q rfl (Nat.le_of_ble_eq_true rfl) ?_
                  refine R.move ?_
                  refine R.nil ?_
                  refine G.q rfl (Nat.le_of_ble_eq_true rfl) ?_
                  refine R.nilCheck rfl ?_
                  refine R.nil ?_
                  refine G.q rfl (Nat.le_of_ble_eq_true rfl) ?_
                  refine R.fld fa86_1 rfl ?_
                  refine R.nil ?_
                  refine G.q rfl (Nat.le_of_ble_eq_true rfl) ?_
                  refine R.loadB t84 hJ.blk rfl rfl rfl (hSA b901 hJs.blk.lt (trivial)) ?_
                  refine R.nil ?_
                  refine G.q rfl (Nat.le_of_ble_eq_true rfl) ?_
                  refine R.len Try.underlying84 (show Sl _ 106 6 vl j.live.length (recsC us j.live) from hJ.lv).row rfl ?_
                  refine R.nil ?_
                  refine G.q rfl (Nat.le_of_ble_eq_true rfl) ?_
                  refine R.subN (m := j.live.length) (n := 1) rfl rfl (by omega) (by omega) ?_
                  refine R.nil ?_
                  refine G.q rfl (Nat.le_of_ble_eq_true rfl) ?_
                  refine R.ix (m := (j.live.length - 1)) Try.underlying84 t106 (by decide) (show Sl _ 106 6 vl j.live.length (recsC us j.live) from hJ.lv).row rfl rfl (by omega) ?_
                  refine R.nil ?_
                  refine G.q rfl (Nat.le_of_ble_eq_true rfl) ?_
                  refine R.loadE t106 (by decide) (show Sl _ 106 6 vl j.live.length (recsC us j.live) from hJ.lv).row rfl (recs_take (l := j.live) hJ.len (by omega)) rfl rfl (fun b e => hSA b (hJs.lv.lt b e) (trivial)) ?_
                  refine R.nil ?_
                  refine G.alloc t106 ?_
                  intro w17 b11 K17 hx17 hb11 hn11 hK17 hk11 hB11
                  have ne10_11 : b10 ≠ b11 := by have h1 := hB10s.lt; rw [hh16] at h1; omega
                  have hn_hJ_11 := hJs.new (by rw [hh16]; exact hb11)
                  have hn011 := hb11
                  replace hb11 := Nat.le_trans hW0 hb11
                  replace hD := hD.ext hx17
                  replace hJ := hJ.ext hx17
                  replace hr := hr.ext hx17
                  replace hS72 := hS72.ext hx17
                  replace hB8 := hB8.ext hx17
                  replace hB10 := hB10.ext hx17
                  replace hE := hE.ext hx17
                  replace hEs := hEs.ext hx17
                  replace hB11 : Blk _ b11 106 #[.int .i64 ((0 : Nat) : Int), .int .i64 ((0 : Nat) : Int), .int .i64 ((0 : Nat) : Int), .int .i64 ((0 : Nat) : Int), .int .i64 ((0 : Nat) : Int), .slice none 0 0] := hB11
                  refine G.l rfl rfl (.inr rfl) (Nat.le_of_ble_eq_true rfl) ?_
                  intro w18 hx18
                  replace hD := hD.ext hx18
                  replace hJ := hJ.ext hx18
                  replace hr := hr.ext hx18
                  replace hS72 := hS72.ext hx18
                  replace hB8 := hB8.ext hx18
                  replace hB10 := hB10.ext hx18
                  replace hB11 := hB11.ext hx18
                  replace hE := hE.ext hx18
                  replace hEs := hEs.ext hx18
                  refine R.storeA t106 hB11 rfl rfl rfl rfl (ones6 rfl rfl rfl rfl rfl (show SU8s _ (us.getD (j.live.length - 1) undef) (j.live.getD (j.live.length - 1) Rc0).dat from hJ.rows (j.live.length - 1) (by show _ < j.live.length; omega)).one) (fun _ h => G.S1_new (fun _ _ h => h.1) hn011 hk11 h) ?_
                  intro w19 hU19 hs19 hN19
                  replace hD := hD.upT hU19 hB11 (by decide)
                  replace hJ := hJ.upN hU19 hn_hJ_11
                  replace hr := hr.upT hU19 hB11 (by decide)
                  replace hS72 := hS72.upT hU19 hB11 (by decide)
                  replace hB8 := hB8.upT hU19 hB11 (by decide)
                  replace hB10 := hB10.up hU19 (fun h => ne10_11 h)
                  replace hE := hE.own hU19 hb11
                  replace hEs := hEs.trans hU19 (fun c hc h => by have h1 : c = b11 := h; rw [hh16] at hc; omega)
                  replace hB11 : Blk _ b11 106 #[.int .i64 (((j.live.getD (j.live.length - 1) Rc0).h.total : Nat) : Int), .int .i64 (((j.live.getD (j.live.length - 1) Rc0).h.number : Nat) : Int), .int .i64 (((j.live.getD (j.live.length - 1) Rc0).h.life : Nat) : Int), .int .i64 (((j.live.getD (j.live.length - 1) Rc0).h.first : Nat) : Int), .int .i64 (((j.live.getD (j.live.length - 1) Rc0).at_ : Nat) : Int), (us.getD (j.live.length - 1) undef)] := hN19
                  clear hN19
                  refine R.nil ⟨hU19.size, ?_⟩
                  intro K18 hK18 hN18
                  replace hk11 := hK18 _ hk11
                  refine G.nil ?_
                  refine E.forget [(0, .pointer (some ⟨b901, 0, none⟩)), (1, v), (2, .int .i64 ((f : Nat) : Int)), (8, .pointer (some ⟨b8, 0, none⟩)), (9, .int .i64 ((d.n : Nat) : Int)), (10, .pointer (some ⟨b10, 0, none⟩)), (11, .pointer (some ⟨b11, 0, none⟩))] ⟨rfl, rfl, rfl, rfl, rfl, rfl, rfl, trivial⟩ (fun e => ?_)
                  refine E.regionP rfl ?_
                  refine R.fld fa106_1 rfl ?_
                  refine R.loadB t3 hB11 rfl rfl rfl trivial ?_
                  refine R.fld fa106_0 rfl ?_
                  refine R.fld fa103_0 rfl ?_
                  refine R.loadB t3 hB11 rfl rfl rfl trivial ?_
                  refine R.addN (m := ((j.live.getD (j.live.length - 1) Rc0).at_)) (n := ((j.live.getD (j.live.length - 1) Rc0).h.total)) rfl rfl (by have := hat (j.live.length - 1) (by omega); have := hO.tot (j.live.length - 1) (by omega); omega) ?_
                  refine R.move ?_
                  refine R.remN (m := (((j.live.getD (j.live.length - 1) Rc0).at_) + ((j.live.getD (j.live.length - 1) Rc0).h.total))) (n := d.n) rfl rfl (by omega) ?_
                  refine R.fld fa106_1 rfl ?_
                  refine R.store t3 hB10 rfl rfl (rfl) (by simp) nofun ?_
                  intro w20 hU20 hs20 hN20
                  replace hD := hD.upT hU20 hB10 (by decide)
                  replace hJ := hJ.upN hU20 hn_hJ_10
                  replace hr := hr.upT hU20 hB10 (by decide)
                  replace hS72 := hS72.upT hU20 hB10 (by decide)
                  replace hB8 := hB8.upT hU20 hB10 (by decide)
                  replace hB11 := hB11.up hU20 (fun h => ne10_11 h.symm)
                  replace hE := hE.own hU20 hb10
                  replace hB10 : Blk _ b10 106 #[.int .i64 ((cntL rec.length : Nat) : Int), .int .i64 ((((lastN j.live)) + 1 : Nat) : Int), .int .i64 ((j.life : Nat) : Int), .int .i64 ((f : Nat) : Int), .int .i64 (((((j.live.getD (j.live.length - 1) Rc0).at_) + ((j.live.getD (j.live.length - 1) Rc0).h.total)) % d.n : Nat) : Int), v72] := hN20
                  clear hN20
                  refine R.nil ?_
                  exact ⟨hD, hJ, hr, hS72, hB8, (by rw [show newAt d.n j.live = _ from if_neg (by omega)]; exact hB10), hE, rfl, rfl, rfl, rfl, rfl, rfl, trivial⟩
                · replace hc79 := dF hc79
                  refine E.skip ?_
                  exact ⟨hD, hJ, hr, hS72, hB8, (by rw [show newAt d.n j.live = 0 from if_pos (by omega)]; exact hB10), hE, rfl, rfl, rfl, rfl, rfl, rfl, trivial⟩
              · rintro e wr ⟨hD, hJ, hr, hS72, hB8, hB10, hE, hH⟩
                obtain ⟨e, rfl⟩ := hH.ex
                clear hH
                refine E.seq ?_
                refine E.seq ?_
                refine E.regionP rfl ?_
                refine R.fld fa103_0 rfl ?_
                refine R.loadB t3 hB8 rfl rfl rfl trivial ?_
                refine R.mulN (m := 2) (n := (cntL rec.length)) rfl rfl (by omega) ?_
                refine R.move ?_
                refine R.nil ?_
                refine E.block ?_
                refine E.loop (fun n e wr => ∃ (i : Nat) (dc : Dk), n = 2 * cntL rec.length - i ∧ i ≤ 2 * cntL rec.length ∧ dc.n = d.n ∧ dc.pw ≤ 9223372036854775807 ∧ WSt d.n (newR d.n j rec f) i dc (writeL (ajobs d.n (newR d.n j rec f)) d) ∧ DM wr b900 vb vd dc ∧ JM wr b901 b900 vl us j ∧ RU8 wr v rec ∧ SU8s wr v72 rec ∧ Blk wr b8 103 #[.int .i64 ((cntL rec.length : Nat) : Int), .int .i64 ((((lastN j.live)) + 1 : Nat) : Int), .int .i64 ((j.life : Nat) : Int), .int .i64 ((f : Nat) : Int)] ∧ Blk wr b10 106 #[.int .i64 ((cntL rec.length : Nat) : Int), .int .i64 ((((lastN j.live)) + 1 : Nat) : Int), .int .i64 ((j.life : Nat) : Int), .int .i64 ((f : Nat) : Int), .int .i64 (((newAt d.n j.live) : Nat) : Int), v72] ∧ Upd (AB b901 b900 vb vd) w wr ∧ Has e [(0, .pointer (some ⟨b901, 0, none⟩)), (1, v), (2, .int .i64 ((f : Nat) : Int)), (8, .pointer (some ⟨b8, 0, none⟩)), (9, .int .i64 ((d.n : Nat) : Int)), (10, .pointer (some ⟨b10, 0, none⟩)), (103, .int .i64 ((2 * (cntL rec.length) : Nat) : Int)), (104, .int .i64 ((i : Nat) : Int))]) (2 * cntL rec.length) ?_ ?_
                · exact ⟨0, d, rfl, by omega, rfl, hpw, WSt.start, hD, hJ, hr, hS72, hB8, hB10, hE, rfl, rfl, rfl, rfl, rfl, rfl, rfl, rfl, trivial⟩
                · rintro n e wr ⟨i, dc, rfl, hi, hdn, hpw, hww, hD, hJ, hr, hS72, hB8, hB10, hE, hH⟩
                  obtain ⟨e, rfl⟩ := hH.ex
                  clear hH
                  refine E.seq ?_
                  refine E.regionP rfl ?_
                  refine R.lss (b := decide ((((i : Nat) : Int)) < (((2 * (cntL rec.length) : Nat) : Int)))) rfl rfl rfl ?_
                  refine R.nil ?_
                  refine E.seq ?_
                  refine E.cond (b := decide ((((i : Nat) : Int)) < (((2 * (cntL rec.length) : Nat) : Int)))) rfl (fun hc105 => ?_) (fun hc105 => ?_)
                  · replace hc105 := dT hc105
                    have hi2 : i < 2 * cntL rec.length := by omega
                    have him := Nat.mod_lt i (show 0 < cntL rec.length by omega)
                    have hml := Nat.mod_lt (newAt d.n j.live + i % cntL rec.length) hn0
                    have hid : i / cntL rec.length < 2 := (Nat.div_lt_iff_lt_mul (by omega)).2 hi2
                    have hmd : i / cntL rec.length * d.n ≤ 1 * d.n := Nat.mul_le_mul_right _ (by omega)
                    refine E.skip ?_
                    refine E.seq ?_
                    refine E.block ?_
                    refine E.seq ?_
                    refine E.regionP rfl ?_
                    refine R.move ?_
                    refine R.assign ?_
                    refine R.nil ?_
                    refine E.seq ?_
                    refine E.regionP rfl ?_
                    refine R.move ?_
                    refine R.fld fa103_0 rfl ?_
                    refine R.loadB t3 hB8 rfl rfl rfl trivial ?_
                    refine R.remN (m := i) (n := (cntL rec.length)) rfl rfl (by omega) ?_
                    refine R.assign ?_
                    refine R.nil ?_
                    refine E.seq ?_
                    refine E.regionW (fun c x => x < wr.heap.size ∧ (c = false → ¬ DB b900 vb vd x)) []  mixed rfl (by kernel_rfl) ?_
                    intro w21 hx21 hh21
                    replace hD := hD.ext hx21
                    replace hJ := hJ.ext hx21
                    replace hr := hr.ext hx21
                    replace hS72 := hS72.ext hx21
                    replace hB8 := hB8.ext hx21
                    replace hB10 := hB10.ext hx21
                    replace hE := hE.ext hx21
                    have hEs : Ext w21 w21 := Upd.refl _
                    have hS0 := hx21.size
                    have hSB : ∀ b, b < w21.heap.size → b < wr.heap.size ∧ (true = false → (fun x => ¬ DB b900 vb vd x) b) := fun b hb => ⟨by rw [hh21] at hb; exact hb, nofun⟩
                    have hSA : ∀ b, b < w21.heap.size → (fun x => ¬ DB b900 vb vd x) b → b < wr.heap.size ∧ (false = false → (fun x => ¬ DB b900 vb vd x) b) := fun b hb h => ⟨by rw [hh21] at hb; exact hb, fun _ => h⟩
                    have hDs := hD
                    have hJs := hJ
                    have hrs := hr
                    have hS72s := hS72
                    have hB8s := hB8
                    have hB10s := hB10
                    refine R.move ?_
                    refine R.nilCheck rfl ?_
                    refine R.fld fa86_0 rfl ?_
                    refine R.loadB t32 hJ.blk rfl rfl rfl (hSA b901 hJs.blk.lt (hDs.notDB hJs.blk (by decide))) ?_
                    refine R.fld fa106_1 rfl ?_
                    refine R.loadB t3 hB10 rfl rfl rfl (hSA b10 hB10s.lt (hDs.notDB hB10s (by decide))) ?_
                    refine R.move ?_
                    refine R.addN (m := ((newAt d.n j.live))) (n := (i % (cntL rec.length))) rfl rfl (by omega) ?_
                    refine R.move ?_
                    refine R.remN (m := (((newAt d.n j.live)) + (i % (cntL rec.length)))) (n := d.n) rfl rfl (by omega) ?_
                    refine R.move ?_
                    refine R.fld fa103_0 rfl ?_
                    refine R.loadB t3 hB8 rfl rfl rfl (hSA b8 hB8s.lt (hDs.notDB hB8s (by decide))) ?_
                    refine R.quoN (m := i) (n := (cntL rec.length)) rfl rfl (by omega) (by omega) ?_
                    refine R.move ?_
                    refine R.mulN (m := (i / (cntL rec.length))) (n := d.n) rfl rfl (by omega) ?_
                    refine R.addN (m := ((((newAt d.n j.live)) + (i % (cntL rec.length))) % d.n)) (n := ((i / (cntL rec.length)) * d.n)) rfl rfl (by omega) ?_
                    refine R.loadA t103 hB8 rfl rfl rfl (hSA b8 hB8s.lt (hDs.notDB hB8s (by decide))) ?_
                    refine R.move ?_
                    refine R.move ?_
                    refine R.callE3 ent54 (piece_ _ (k := i % (cntL rec.length)) hr.row (by omega) (by omega)) rfl rfl rfl (fun _ _ hb => Nat.lt_of_lt_of_le hb.1 (Nat.le_trans hS0 hEs.size)) ?_
                    rintro v131 w22 hx22 rfl
                    replace hD := hD.ext hx22
                    replace hJ := hJ.ext hx22
                    replace hr := hr.ext hx22
                    replace hS72 := hS72.ext hx22
                    replace hB8 := hB8.ext hx22
                    replace hB10 := hB10.ext hx22
                    replace hE := hE.ext hx22
                    replace hEs := hEs.ext hx22
                    refine R.call3 ent17 (write_ _ hD (pcB_ok (y := newR d.n j rec f) hrb (i % cntL rec.length)) hpw) rfl rfl rfl ?_
                    rintro v132 w23 ⟨hU23, hDn23, rfl⟩
                    refine ⟨fun _ => hU23.agree (fun x hx => ⟨Nat.lt_of_lt_of_le hx.1 (Nat.le_trans hS0 hEs.size), hx.2 rfl⟩), ?_⟩
                    replace hJ := hJ.upD hU23 hD
                    replace hr := hr.upD hU23 hD (by decide)
                    replace hS72 := hS72.upD hU23 hD (by decide)
                    replace hB8 := hB8.upD hU23 hD (by decide)
                    replace hB10 := hB10.upD hU23 hD (by decide)
                    replace hE := hE.trans hU23 (fun x _ h => .inr h)
                    clear hD
                    have hD := hDn23
                    refine R.not rfl ?_
                    refine R.nil ?_
                    refine E.cond (b := !((dc.write ((((((newAt d.n j.live)) + (i % (cntL rec.length))) % d.n) + ((i / (cntL rec.length)) * d.n) : Nat) : Int) (pcB (newR d.n j rec f) (i % cntL rec.length))).2)) rfl (fun hc133 => ?_) (fun hc133 => ?_)
                    · refine E.seq ?_
                      refine E.forget [(0, .pointer (some ⟨b901, 0, none⟩))] ⟨rfl, trivial⟩ (fun e => ?_)
                      refine E.regionP rfl ?_
                      refine R.move ?_
                      refine R.nilCheck rfl ?_
                      refine R.fld fa86_4 rfl ?_
                      refine R.store t4 hJ.blk rfl rfl rfl (by simp) nofun ?_
                      intro w24 hU24 hs24 hN24
                      have hJ1 := hJ
                      replace hJ : JM _ b901 b900 vl us ⟨j.live, j.life, j.mended, true⟩ := hJ.setCell (m := j.mended) (b := true) hU24 hN24
                      replace hD := hD.upT hU24 hJ1.blk (by decide)
                      replace hr := hr.upT hU24 hJ1.blk (by decide)
                      replace hS72 := hS72.upT hU24 hJ1.blk (by decide)
                      replace hB8 := hB8.upT hU24 hJ1.blk (by decide)
                      replace hB10 := hB10.upT hU24 hJ1.blk (by decide)
                      replace hE := hE.trans hU24 (fun x _ h => .inl h)
                      refine R.nil ?_
                      refine E.seq ?_
                      refine E.regionP rfl ?_
                      refine R.assign ?_
                      refine R.assign ?_
                      refine R.nil ?_
                      refine E.ret ?_
                      refine ret2 (.int .i64 ((0 : Nat) : Int)) (.int .i64 ((420 : Nat) : Int)) rfl rfl rfl ⟨_, rfl, ?_⟩
                      refine ⟨hE, ?_⟩
                      have hap := appendL_w hc29 (by omega) (by omega) (by have : cntL rec.length = max 1 ((rec.length + 48 - 1) / 48) := rfl; omega) (hww.no hi2 (nbT hc133))
                      rw [if_neg (by decide)] at hap
                      rw [hap]
                      exact ⟨hD, ⟨_, _, hJ⟩, rfl⟩
                    · refine E.skip ?_
                      refine E.forget [(0, .pointer (some ⟨b901, 0, none⟩)), (1, v), (2, .int .i64 ((f : Nat) : Int)), (8, .pointer (some ⟨b8, 0, none⟩)), (9, .int .i64 ((d.n : Nat) : Int)), (10, .pointer (some ⟨b10, 0, none⟩)), (103, .int .i64 ((2 * (cntL rec.length) : Nat) : Int)), (104, .int .i64 ((i : Nat) : Int))] ⟨rfl, rfl, rfl, rfl, rfl, rfl, rfl, rfl, trivial⟩ (fun e => ?_)
                      refine E.regionP rfl ?_
                      refine R.addN (m := i) (n := 1) rfl rfl (by omega) ?_
                      refine R.move ?_
                      refine R.nil ?_
                      exact ⟨2 * cntL rec.length - (i + 1), by omega, i + 1, _, rfl, by omega, ((Dk.write_n _ _ _).trans hdn), (Dk.write_pw _ _ _ (by decide) hpw), (hww.yes hi2 (nbF hc133)), hD, hJ, hr, hS72, hB8, hB10, hE, rfl, rfl, rfl, rfl, rfl, rfl, rfl, rfl, trivial⟩
                  · replace hc105 := dF hc105
                    refine E.exit ?_
                    refine E.seq ?_
                    have hW0 := hE.size
                    refine E.regionF (fun c x => x < wr.heap.size ∧ (c = false → x ≠ b901)) [142] [145, 148] mixed rfl (by kernel_rfl) (fun _ _ h => h.1) ?_
                    intro w25 hx25 hh25
                    replace hD := hD.ext hx25
                    replace hJ := hJ.ext hx25
                    replace hr := hr.ext hx25
                    replace hS72 := hS72.ext hx25
                    replace hB8 := hB8.ext hx25
                    replace hB10 := hB10.ext hx25
                    replace hE := hE.ext hx25
                    have hEs : Ext w25 w25 := Upd.refl _
                    have hS0 := hx25.size
                    have hSB : ∀ b, b < w25.heap.size → b < wr.heap.size ∧ (true = false → (fun x => x ≠ b901) b) := fun b hb => ⟨by rw [hh25] at hb; exact hb, nofun⟩
                    have hSA : ∀ b, b < w25.heap.size → (fun x => x ≠ b901) b → b < wr.heap.size ∧ (false = false → (fun x => x ≠ b901) b) := fun b hb h => ⟨by rw [hh25] at hb; exact hb, fun _ => h⟩
                    have hDs := hD
                    have hJs := hJ
                    have hrs := hr
                    have hS72s := hS72
                    have hB8s := hB8
                    have hB10s := hB10
                    refine G.q rfl (Nat.le_of_ble_eq_true rfl) ?_
                    refine R.move ?_
                    refine R.nil ?_
                    refine G.q rfl (Nat.le_of_ble_eq_true rfl) ?_
                    refine R.move ?_
                    refine R.nil ?_
                    refine G.q rfl (Nat.le_of_ble_eq_true rfl) ?_
                    refine R.nilCheck rfl ?_
                    refine R.nil ?_
                    refine G.q rfl (Nat.le_of_ble_eq_true rfl) ?_
                    refine R.fld fa86_1 rfl ?_
                    refine R.nil ?_
                    refine G.q rfl (Nat.le_of_ble_eq_true rfl) ?_
                    refine R.loadB t84 hJ.blk rfl rfl rfl (hSB b901 hJs.blk.lt) ?_
                    refine R.nil ?_
                    refine G.q rfl (Nat.le_of_ble_eq_true rfl) ?_
                    refine R.move ?_
                    refine R.nil ?_
                    refine G.q rfl (Nat.le_of_ble_eq_true rfl) ?_
                    refine R.move ?_
                    refine R.nil ?_
                    refine G.l rfl rfl (.inl rfl) (Nat.le_of_ble_eq_true rfl) ?_
                    intro w26 hx26
                    replace hD := hD.ext hx26
                    replace hJ := hJ.ext hx26
                    replace hr := hr.ext hx26
                    replace hS72 := hS72.ext hx26
                    replace hB8 := hB8.ext hx26
                    replace hB10 := hB10.ext hx26
                    replace hE := hE.ext hx26
                    replace hEs := hEs.ext hx26
                    refine R.callE1 ent40 (first_ _ hJ hO.len) rfl (fun _ _ hb => G.S1_lt (fun _ _ h => h.1) (Nat.le_trans hS0 hEs.size) hb) ?_
                    rintro v145 w27 hx27 rfl
                    replace hD := hD.ext hx27
                    replace hJ := hJ.ext hx27
                    replace hr := hr.ext hx27
                    replace hS72 := hS72.ext hx27
                    replace hB8 := hB8.ext hx27
                    replace hB10 := hB10.ext hx27
                    replace hE := hE.ext hx27
                    replace hEs := hEs.ext hx27
                    refine R.nil ⟨hx27.size, ?_⟩
                    intro K26 hK26 hN26
                    refine G.q rfl (Nat.le_of_ble_eq_true rfl) ?_
                    refine R.subN (m := f) (n := ((firstN j.live))) rfl rfl (by omega) (by omega) ?_
                    refine R.nil ?_
                    refine G.q rfl (Nat.le_of_ble_eq_true rfl) ?_
                    have hsl9 := hJ.lv
                    obtain ⟨ar, cr, hvr, hcr, _, hcase⟩ := hsl9
                    refine R.slc (l := f - firstN j.live) (r := j.live.length) Try.underlying84 t106 rfl hvr ⟨_, rfl⟩ rfl (by omega) (by omega) ?_
                    have hsl : Sl w27 106 6 (cut 6 vl (f - firstN j.live) j.live.length) (j.live.drop (f - firstN j.live)).length (recsC (us.drop (f - firstN j.live)) (j.live.drop (f - firstN j.live))) := by
                      have h1 := hJ.lv.cut (l := f - firstN j.live) (r := j.live.length) (by omega) (Nat.le_refl _)
                      rw [recsC_drop _ hJ.len, List.take_of_length_le (by rw [recsC_len (by rw [List.length_drop, List.length_drop, hJ.len]), List.length_drop]; omega)] at h1
                      rw [List.length_drop]; exact h1
                    refine R.nil ?_
                    refine G.l rfl rfl (.inl rfl) (Nat.le_of_ble_eq_true rfl) ?_
                    intro w28 hx28
                    replace hD := hD.ext hx28
                    replace hJ := hJ.ext hx28
                    replace hr := hr.ext hx28
                    replace hS72 := hS72.ext hx28
                    replace hsl := hsl.ext hx28
                    replace hB8 := hB8.ext hx28
                    replace hB10 := hB10.ext hx28
                    replace hE := hE.ext hx28
                    replace hEs := hEs.ext hx28
                    refine R.callE1 ent55 (cloneR_ _ hsl.row (by rw [List.length_drop, List.length_drop, hJ.len]) (fun u hu => hJ.rows' u (List.mem_of_mem_drop hu)) (by rw [List.length_drop]; omega)) rfl (fun _ _ hb => G.S1_lt (fun _ _ h => h.1) (Nat.le_trans hS0 hEs.size) hb) ?_
                    rintro v148 w29 hx29 ⟨hS148, hF148⟩
                    have hFr148 := hF148
                    replace hF148 := hF148.mono hE.size
                    have hnj148 : ∀ b, vblk v148 = some b → ¬ JB b901 vl us b := fun b hb => hJ.new (hFr148 b hb)
                    have hnq10 : vblk v148 ≠ some b10 := fun e => by have := hB10.lt; have := hFr148 _ e; omega
                    have hnb148 : ∀ b, vblk v148 = some b → wr.heap.size ≤ b := fun b hb => Nat.le_trans (Nat.le_trans hS0 hEs.size) (hFr148 b hb)
                    replace hD := hD.ext hx29
                    replace hJ := hJ.ext hx29
                    replace hr := hr.ext hx29
                    replace hS72 := hS72.ext hx29
                    replace hsl := hsl.ext hx29
                    replace hB8 := hB8.ext hx29
                    replace hB10 := hB10.ext hx29
                    replace hE := hE.ext hx29
                    replace hEs := hEs.ext hx29
                    refine R.nil ⟨hx29.size, ?_⟩
                    intro K28 hK28 hN28
                    have hkv148 : ∀ b, vblk v148 = some b → wr.heap.size ≤ b ∧ K28 b := fun b hb => ⟨hnb148 b hb, hN28 b (hFr148 b hb) (hS148.lt b hb)⟩
                    refine G.q rfl (Nat.le_of_ble_eq_true rfl) ?_
                    refine R.loadA t106 hB10 rfl rfl rfl (hSA b10 hB10s.lt (hB10s.ne hJs.blk (by decide))) ?_
                    refine R.nil ?_
                    refine G.buildSlice [.agg #[.int .i64 ((cntL rec.length : Nat) : Int), .int .i64 ((((lastN j.live)) + 1 : Nat) : Int), .int .i64 ((j.life : Nat) : Int), .int .i64 ((f : Nat) : Int), .int .i64 (((newAt d.n j.live) : Nat) : Int), v72]] Try.underlying84 t106 rfl rfl (by simp [Value.cells]) (by simp) ?_
                    intro w30 b150 K30 hx30 hb150 hn150 hK30 hk150 hS150
                    replace hkv148 := fun b e => And.intro (hkv148 b e).1 (hK30 _ (hkv148 b e).2)
                    have hn0150 := hb150
                    replace hb150 := Nat.le_trans hW0 hb150
                    replace hD := hD.ext hx30
                    replace hJ := hJ.ext hx30
                    replace hr := hr.ext hx30
                    replace hS72 := hS72.ext hx30
                    replace hsl := hsl.ext hx30
                    replace hS148 := hS148.ext hx30
                    replace hB8 := hB8.ext hx30
                    replace hB10 := hB10.ext hx30
                    replace hE := hE.ext hx30
                    replace hEs := hEs.ext hx30
                    refine G.l rfl rfl (.inr rfl) (Nat.le_of_ble_eq_true rfl) ?_
                    intro w31 hx31
                    replace hD := hD.ext hx31
                    replace hJ := hJ.ext hx31
                    replace hr := hr.ext hx31
                    replace hS72 := hS72.ext hx31
                    replace hsl := hsl.ext hx31
                    replace hS148 := hS148.ext hx31
                    replace hS150 := hS150.ext hx31
                    replace hB8 := hB8.ext hx31
                    replace hB10 := hB10.ext hx31
                    replace hE := hE.ext hx31
                    replace hEs := hEs.ext hx31
                    refine R.append Try.underlying84 Try.underlying84 t106 (by decide) rfl hS148 hS150.row (recs_one (us := [v72]) (l := [newR d.n j rec f]) (by simpa using hS72.one)) rfl rfl (by simp; omega) (by simp; omega) (fun _ b hb => ⟨G.S1_lt (fun _ _ h => h.1) (Nat.le_trans hS0 hEs.size) hb, fun e => G.S1_new (fun _ _ h => h.1) (hkv148 b e).1 (hkv148 b e).2 hb⟩) ?_
                    intro v151 w32 hU32 hS151 hd32
                    have hF151 := Fresh.app hE hF148 hd32
                    replace hD := hD.upS hU32 hS148 (by decide)
                    replace hJ := hJ.upV hU32 hnj148
                    replace hr := hr.upS hU32 hS148 (by decide)
                    replace hS72 := hS72.upS hU32 hS148 (by decide)
                    replace hB8 := hB8.upS hU32 hS148 (by decide)
                    replace hB10 := hB10.up hU32 (fun e => hnq10 e)
                    replace hE := hE.app hU32 hF148
                    replace hEs := hEs.trans hU32 (fun c hc h => by have h1 := hnb148 c h; rw [hh25] at hc; omega)
                    refine R.nil ⟨hU32.size, ?_⟩
                    intro K31 hK31 hN31
                    replace hk150 := hK31 _ hk150
                    replace hkv148 := fun b e => And.intro (hkv148 b e).1 (hK31 _ (hkv148 b e).2)
                    refine G.q rfl (Nat.le_of_ble_eq_true rfl) ?_
                    refine R.nilCheck rfl ?_
                    refine R.nil ?_
                    refine G.q rfl (Nat.le_of_ble_eq_true rfl) ?_
                    refine R.fld fa86_1 rfl ?_
                    refine R.nil ?_
                    refine G.l rfl rfl (.inr rfl) (Nat.le_of_ble_eq_true rfl) ?_
                    intro w33 hx33
                    replace hD := hD.ext hx33
                    replace hJ := hJ.ext hx33
                    replace hr := hr.ext hx33
                    replace hS72 := hS72.ext hx33
                    replace hS151 := hS151.ext hx33
                    replace hB8 := hB8.ext hx33
                    replace hB10 := hB10.ext hx33
                    replace hE := hE.ext hx33
                    replace hEs := hEs.ext hx33
                    refine R.store t84 hJ.blk rfl rfl hS151.one (by simp) (fun _ h => G.S1_old (by have h9 := hJs.blk.lt; rw [hh25] at h9; exact h9) (fun h => h.2 rfl rfl) h) ?_
                    intro w34 hU34 hs34 hN34
                    have hJ1 := hJ
                    have hS151' : Sl w33 106 6 v151 (j.live.drop (f - firstN j.live) ++ [newR d.n j rec f]).length (recsC (us.drop (f - firstN j.live) ++ [v72]) (j.live.drop (f - firstN j.live) ++ [newR d.n j rec f])) := by rw [← recsC_app (by rw [List.length_drop, List.length_drop, hJ1.len]), List.length_append]; exact hS151
                    replace hJ : JM _ b901 b900 v151 (us.drop (f - firstN j.live) ++ [v72]) ⟨(j.live.drop (f - firstN j.live) ++ [newR d.n j rec f]), j.life, j.mended, j.down⟩ := hJ.setLive (v := v151) (l := (j.live.drop (f - firstN j.live) ++ [newR d.n j rec f])) (us' := us.drop (f - firstN j.live) ++ [v72]) hU34 hN34 hS151' (by simp only [List.length_append, List.length_drop, List.length_cons, List.length_nil, hJ1.len]) (rows_snoc hJ1.len hS72 hJ1.rows)
                    replace hD := hD.upT hU34 hJ1.blk (by decide)
                    replace hr := hr.upT hU34 hJ1.blk (by decide)
                    replace hS72 := hS72.upT hU34 hJ1.blk (by decide)
                    replace hB8 := hB8.upT hU34 hJ1.blk (by decide)
                    replace hB10 := hB10.upT hU34 hJ1.blk (by decide)
                    replace hE := hE.trans hU34 (fun x _ h => .inl h)
                    refine R.nil ⟨hU34.size, ?_⟩
                    intro K33 hK33 hN33
                    replace hk150 := hK33 _ hk150
                    replace hkv148 := fun b e => And.intro (hkv148 b e).1 (hK33 _ (hkv148 b e).2)
                    refine G.nil ?_
                    refine E.seq ?_
                    refine E.forget [(8, .pointer (some ⟨b8, 0, none⟩))] ⟨rfl, trivial⟩ (fun e => ?_)
                    refine E.regionP rfl ?_
                    refine R.fld fa103_1 rfl ?_
                    refine R.loadB t3 hB8 rfl rfl rfl trivial ?_
                    refine R.assign ?_
                    refine R.assign ?_
                    refine R.nil ?_
                    refine E.ret ?_
                    refine ret2 (.int .i64 ((((lastN j.live)) + 1 : Nat) : Int)) (.int .i64 ((0 : Nat) : Int)) rfl rfl rfl ⟨_, rfl, ?_⟩
                    refine ⟨hE, ?_⟩
                    have hap := appendL_w hc29 (by omega) (by omega) (by have : cntL rec.length = max 1 ((rec.length + 48 - 1) / 48) := rfl; omega) (hww.done (show 2 * cntL rec.length ≤ i by omega))
                    rw [if_pos rfl] at hap
                    rw [hap]
                    exact ⟨hD, ⟨_, _, hJ⟩, rfl⟩
end Go.Proofs.Ytlplogplicgfiaa
