import Derived.Test.YtfdmndkoiheebaaZ16J26
namespace Go.Proofs.Ytfdmndkoiheebaa
open Go Go.RowKit
theorem sets3 {xss : List (List Int)} {i m : Nat} {xs : List Int} (h : ∀ xs ∈ xss, xs.length ≤ m) (hx : xs.length ≤ m) : ∀ ys ∈ xss.set i xs, ys.length ≤ m := fun ys hy => by
  rcases List.mem_or_eq_of_mem_set hy with h1 | rfl
  · exact h ys h1
  · exact hx
theorem Mat.take {w : World} {v : Value} {us : List Value} {xss : List (List Int)} (h : Mat w v us xss) {k : Nat} (hk : k ≤ xss.length) : Mat w (cut 1 v 0 k) (us.take k) (xss.take k) := by
  have h1 := h.row.cut (l := 0) (r := k) (Nat.zero_le _) hk
  have e : (xss.take k).length = k := by simp; omega
  refine ⟨by rw [e]; simpa using h1, fun i hi => ?_⟩
  rw [e] at hi
  obtain ⟨u, q1, q2⟩ := h.get i (by omega)
  exact ⟨u, by rw [List.getElem?_take, if_pos hi]; exact q1, by rw [List.getElem_take]; exact q2⟩
theorem Fit.take {xss : List (List Int)} (h : Fit xss) (k : Nat) : Fit (xss.take k) := ⟨by have := h.1; simp; omega, fun xs hx => h.2 xs (List.mem_of_mem_take hx)⟩
theorem stepsC_drop : ∀ (ss : List (Int × Int × Int)) (l : Nat), (stepsC ss).drop (l * 3) = stepsC (ss.drop l)
  | ss, 0 => by simp
  | [], l + 1 => by simp [stepsC]
  | s :: ss, l + 1 => by
    rw [stepsC_cons, show (l + 1) * 3 = 3 + l * 3 by omega, ← List.drop_drop]
    simpa using stepsC_drop ss l
theorem stepsC_take : ∀ (ss : List (Int × Int × Int)) (l : Nat), (stepsC ss).take (l * 3) = stepsC (ss.take l)
  | ss, 0 => by simp [stepsC]
  | [], l + 1 => by simp [stepsC]
  | s :: ss, l + 1 => by
    have := stepsC_take ss l
    rw [List.take_succ_cons, stepsC_cons, stepsC_cons, show (l + 1) * 3 = l * 3 + 3 by omega]
    simpa using this
theorem Row.steps {w : World} {v : Value} {ss : List (Int × Int × Int)} (h : Row w 3 v ss.length (stepsC ss)) {l r : Nat} (hl : l ≤ r) (hr : r ≤ ss.length) : Row w 3 (Ytfdmndkoiheebaa.cut 3 v l r) ((ss.drop l).take (r - l)).length (stepsC ((ss.drop l).take (r - l))) := by
  have h1 := Row.cut h hl hr
  have e : ((ss.drop l).take (r - l)).length = r - l := by simp; omega
  rw [e]
  rw [stepsC_drop, stepsC_take] at h1
  exact h1
theorem stepsC_set {ms : List (Int × Int × Int)} {i : Nat} {m : Int × Int × Int} (h : i < ms.length) : (stepsC (ms.set i m)).length = (stepsC ms).length ∧ ∀ j, (stepsC (ms.set i m))[j]? = if j = i * 3 then some (.int .i64 m.1) else if j = i * 3 + 1 then some (.int .i64 m.2.1) else if j = i * 3 + 2 then some (.int .i64 m.2.2) else (stepsC ms)[j]? := by
  refine ⟨by simp [stepsC_len], fun j => ?_⟩
  by_cases hj : j < ms.length * 3
  · have hp : j / 3 < ms.length := by omega
    have hp2 : j / 3 < (ms.set i m).length := by simpa using hp
    have ge : (ms.set i m)[j / 3] = if i = j / 3 then m else ms[j / 3] := List.getElem_set _
    rcases (show j = j / 3 * 3 + 0 ∨ j = j / 3 * 3 + 1 ∨ j = j / 3 * 3 + 2 by omega) with e | e | e
    · rw [e, stepsC_at0 hp2, stepsC_at0 hp, ge]
      by_cases hij : i = j / 3
      · rw [if_pos hij, if_pos (by omega)]
      · rw [if_neg hij, if_neg (by omega), if_neg (by omega), if_neg (by omega)]
    · rw [e, stepsC_at1 hp2, stepsC_at1 hp, ge]
      by_cases hij : i = j / 3
      · rw [if_pos hij, if_neg (by omega), if_pos (by omega)]
      · rw [if_neg hij, if_neg (by omega), if_neg (by omega), if_neg (by omega)]
    · rw [e, stepsC_at2 hp2, stepsC_at2 hp, ge]
      by_cases hij : i = j / 3
      · rw [if_pos hij, if_neg (by omega), if_neg (by omega), if_pos (by omega)]
      · rw [if_neg hij, if_neg (by omega), if_neg (by omega), if_neg (by omega)]
  · rw [if_neg (by omega), if_neg (by omega), if_neg (by omega), List.getElem?_eq_none (by rw [stepsC_len]; simp; omega), List.getElem?_eq_none (by rw [stepsC_len]; omega)]
theorem R.stS {P : Program} {ops : Array Oper} {S : Bool → Nat → Prop} {dr : Bool} {B : List Nat} {F : Env → World → Prop} {rest : List Oper} {e : Env} {w : World} {od : Option Tmp} {ty : TypeId} {pos : String} {aft : Array Edge} {x y : Operand} {t tb : TypeId} {by_ i : Nat} {z v : Value} {ms : List (Int × Int × Int)} {m : Int × Int × Int}
    (hk : Ty P t 3 by_ true z) (hs : Sl w tb 3 v ms.length (stepsC ms)) (hx : ev e x = elemPtr v (i * 3)) (hy : ev e y = .agg #[.int .i64 m.1, .int .i64 m.2.1, .int .i64 m.2.2]) (hi : i < ms.length) (hag : dr = true → ∀ b, vblk v = some b → ¬ S false b)
    (h : ∀ w', Upd (fun b => vblk v = some b) w w' → w'.heap.size = w.heap.size → Sl w' tb 3 v ms.length (stepsC (ms.set i m)) → wpR P ops S dr (kind B) F rest (updo e od undef) w') : wpR P ops S dr (kind B) F (⟨od, .store t x y, ty, pos, aft, none⟩ :: rest) e w := by
  obtain ⟨a, c, rfl, hc, hl, hq⟩ := hs
  rcases hq with ⟨_, rfl⟩ | ⟨b, off, cur, rfl, hb, ho, hq⟩
  · omega
  · simp only [elemPtr, add_none] at hx
    have hfit : off + i * 3 + [Value.int .i64 m.1, Value.int .i64 m.2.1, Value.int .i64 m.2.2].length ≤ cur.size := by simp; omega
    refine R.storeG (vs := [.int .i64 m.1, .int .i64 m.2.1, .int .i64 m.2.2]) hk hb hx hy rfl rfl (by simp [Value.oneCell']) (by omega) (fun hd => hag hd b rfl) (fun w' hU hs hB => h w' (hU.mono (fun x _ hx => by simp [vblk]; exact hx.symm)) hs ⟨_, _, rfl, hc, by rw [stepsC_len]; simp, .inr ⟨b, off, _, rfl, hB, by rw [put_size hfit]; exact ho, fun j hj => ?_⟩⟩)
    obtain ⟨h1, h2⟩ := stepsC_set (m := m) hi
    rw [h1] at hj
    rw [h2, put_get hfit]
    by_cases hj1 : j = i * 3
    · rw [if_neg (by omega), if_pos (by simp; omega), if_pos hj1]
      rw [show off + j - (off + i * 3) = 0 by omega]; rfl
    · by_cases hj2 : j = i * 3 + 1
      · rw [if_neg (by omega), if_pos (by simp; omega), if_neg hj1, if_pos hj2]
        rw [show off + j - (off + i * 3) = 1 by omega]; rfl
      · by_cases hj4 : j = i * 3 + 2
        · rw [if_neg (by omega), if_pos (by simp; omega), if_neg hj1, if_neg hj2, if_pos hj4]
          rw [show off + j - (off + i * 3) = 2 by omega]; rfl
        · rw [if_neg hj1, if_neg hj2, if_neg hj4]
          by_cases hj3 : off + j < off + i * 3
          · rw [if_pos hj3]; exact hq j hj
          · rw [if_neg hj3, if_neg (by simp; omega)]; exact hq j hj
theorem run_appendK {P : Program} {w : World} {t tx ty el el' : TypeId} {k by_ : Nat} {g : Bool} {z : Value} (hu : P.underlying t = some (.slice el)) (hux : P.underlying tx = some (.slice el')) (hk : Ty P el k by_ g z) (hk0 : 0 < k) (hz : z.cells.size = k)
    {v u : Value} {n m : Nat} {cs news : List Value} (hs : Sl w el k v n cs) (hr : Row w k u m news) (h1 : ∀ x ∈ news, x.oneCell' = true) (hb : (n + m) * by_ ≤ 140737488355328) (hnm : n + m ≤ 9223372036854775807) :
    ∃ v' w', (Builtin.append_ #[t, tx] ty #[v, u]).run P w = .ok v' w' ∧ Upd (fun b => vblk v = some b) w w' ∧ Sl w' el k v' (n + m) (cs ++ news) ∧ Sl w' el k v n cs ∧
      ((vblk v' = vblk v ∧ n + m ≤ vcap v ∧ vcap v' = vcap v) ∨ (∃ b, vblk v' = some b ∧ w.heap.size ≤ b ∧ Ext w w')) := by
  by_cases hroom : n + m ≤ vcap v
  · have hs0 := hs
    obtain ⟨a, c, rfl, hc, hl, hj⟩ := hs
    rcases hj with ⟨rfl, rfl⟩ | ⟨b, off, cur, rfl, hB, ho, hj⟩
    · obtain ⟨v', w', q1, q2, q3, q4⟩ := run_append (ty := ty) hu hux hk hk0 hz hs0 hr h1 hb hnm
      exact ⟨v', w', q1, q2, q3, ⟨none, 0, rfl, hc, hl, .inl ⟨rfl, rfl⟩⟩, q4⟩
    · have src := hr.src hk0 hux h1 (P := P)
      have hlr := hr.len
      obtain ⟨i, hi, hz0, hz1, hz2⟩ := info_parts hk.info
      subst hz1
      replace hroom : n + m ≤ c := hroom
      have hcm : n * i.size + m * i.size ≤ c * i.size := by rw [← Nat.add_mul]; exact Nat.mul_le_mul_right _ hroom
      have hfit : off + n * i.size + news.length ≤ cur.size := by rw [hlr]; omega
      have hrun := run_append_room_src (P := P) w t tx ty el i hu hi b off n c u m news src hroom
        (fun j hj => by rw [hB.cell]; simp; omega) (fun j _ => hB.frozen _)
      refine ⟨_, _, hrun, (Upd.setCells news).mono (fun x _ hx => by simp [vblk]; exact hx.symm), ?_, ?_, .inl ⟨rfl, hroom, rfl⟩⟩
      · refine ⟨_, _, rfl, hroom, by rw [List.length_append, hl, hlr, Nat.add_mul], .inr ⟨b, off, _, rfl, hB.setCells news hfit, by rw [put_size hfit]; exact ho, fun j hjl => ?_⟩⟩
        rw [List.length_append] at hjl
        rw [put_get hfit]
        by_cases hjn : j < cs.length
        · rw [if_pos (by omega), List.getElem?_append_left hjn, hj j hjn]
        · rw [if_neg (by omega), if_pos (by omega), List.getElem?_append_right (by omega)]
          congr 1; omega
      · refine ⟨_, _, rfl, hc, hl, .inr ⟨b, off, _, rfl, hB.setCells news hfit, by rw [put_size hfit]; exact ho, fun j hjl => ?_⟩⟩
        rw [put_get hfit, if_pos (by omega), hj j hjl]
  · obtain ⟨v', w', q1, q2, q3, q4⟩ := run_append (ty := ty) hu hux hk hk0 hz hs hr h1 hb hnm
    rcases q4 with ⟨_, q5, _⟩ | ⟨b, q5, q6, q7⟩
    · exact absurd q5 hroom
    · exact ⟨v', w', q1, q2, q3, hs.ext q7, .inr ⟨b, q5, q6, q7⟩⟩
theorem R.appendK {P : Program} {ops : Array Oper} {S : Bool → Nat → Prop} {dr : Bool} {B : List Nat} {F : Env → World → Prop} {rest : List Oper} {e : Env} {w : World} {d : Tmp} {ty : TypeId} {pos : String} {aft : Array Edge} {x y : Operand} {t tx el el' : TypeId} {k by_ : Nat} {g : Bool} {z : Value} (hu : P.underlying t = some (.slice el)) (hux : P.underlying tx = some (.slice el')) (hk : Ty P el k by_ g z) (hk0 : 0 < k) (hz : z.cells.size = k)
    {v u : Value} {n m : Nat} {cs news : List Value} (hs : Sl w el k v n cs) (hr : Row w k u m news) (h1 : ∀ x ∈ news, x.oneCell' = true) (hx : ev e x = v) (hy : ev e y = u) (hb : (n + m) * by_ ≤ 140737488355328) (hnm : n + m ≤ 9223372036854775807)
    (hag : dr = true → ∀ b, S false b → b < w.heap.size ∧ vblk v ≠ some b)
    (h : ∀ v' w', Upd (fun b => vblk v = some b) w w' → Sl w' el k v' (n + m) (cs ++ news) → Sl w' el k v n cs → ((vblk v' = vblk v ∧ n + m ≤ vcap v ∧ vcap v' = vcap v) ∨ (∃ b, vblk v' = some b ∧ w.heap.size ≤ b ∧ Ext w w')) →
      wpR P ops S dr (kind B) F rest (upd e d v') w') : wpR P ops S dr (kind B) F (⟨some d, .call { callee := .builtin .append, args := #[x, y], argTypes := #[t, tx] }, ty, pos, aft, none⟩ :: rest) e w := by
  obtain ⟨v', w', hrun, hU, hS, hK, hd⟩ := run_appendK (ty := ty) hu hux hk hk0 hz hs hr h1 hb hnm
  refine R.run3 (w' := w') (v := v') rfl ?_ (fun hdr => hU.agree fun b hb => hag hdr b hb) (h v' w' hU hS hK hd)
  simp [execOp, resolve, invoke, builtin, hx, hy, hrun]
theorem R.addW {P : Program} {ops : Array Oper} {S : Bool → Nat → Prop} {dr : Bool} {B : List Nat} {F : Env → World → Prop} {rest : List Oper} {e : Env} {w : World} {d : Tmp} {ty : TypeId} {pos : String} {aft : Array Edge} {t t' : TypeId} {x y : Operand} {m n : Int} (hx : ev e x = .int .i64 m) (hy : ev e y = .int .i64 n)
    (h : wpR P ops S dr (kind B) F rest (upd e d (.int .i64 (IntKind.i64.wrap (m + n)))) w) : wpR P ops S dr (kind B) F (⟨some d, .binOp .add t x y t', ty, pos, aft, none⟩ :: rest) e w :=
  R.bin hx hy _ (fun w => by simp [binOp, Op.intArith]) h
theorem fresh_lit {X : Nat → Prop} {w0 w : World} {b n c : Nat} (h : Upd X w0 w) (hb : w.heap.size ≤ b) : Fresh w0 (.slice (some ⟨b, 0, none⟩) n c) := fun x e => by
  simp [vblk] at e; subst e
  exact Nat.le_trans h.size hb
theorem rRunS (w : World) {v vo : Value} {h : Int} {us : List Value} {xss : List (List Int)} {ord : List Int} {ss : List (Int × Int × Int)} (hm : Mat w v us xss) (ho : Ints w vo ord) (hl : xss.length < 100000) (hx : ∀ xs ∈ xss, xs.length ≤ 10) (hol : ord.length < 100000) (hp : (runR xss h ord).1 = ss) :
    Calls Try.prog 49 #[.agg #[v, .int .i64 h], vo] w (Ret fun r w' => Ext w w' ∧ ∃ u e, r = .tuple #[u, .int .i64 e] ∧ Steps w' u ss) := by
  subst hp
  exact (rRun w (h := h) hm ho hl hx hol).mono fun _ _ ⟨r, h1, h2, u, h3, h4⟩ => ⟨r, h1, h2, u, _, h3, h4⟩
set_option maxHeartbeats 3200000 in
theorem retrieveSmall (w : World) : Calls Try.prog 16 #[] w (Ret fun r w' => Ext w w' ∧ r = .bool true) := by
  refine calls_E (args := []) 233 Try.func16 rfl rfl (by simp) ?_
  have hE : Ext w w := Upd.refl w
  refine E.seq ?_
  refine E.regionP rfl ?_
  refine R.assign ?_
  refine R.nil ?_
  refine E.seq ?_
  refine E.regionP rfl ?_
  refine R.buildSlice [.int .i64 1] Try.underlying35 t3 rfl rfl (by simp [Value.cells]) (by simp) nofun ?_
  intro b16 w1 hb16 hx1 hB16 hS16
  replace hb16 := Nat.le_trans hE.size hb16
  replace hE := hE.ext hx1
  refine R.buildSlice [.int .i64 4, .int .i64 2] Try.underlying35 t3 rfl rfl (by simp [Value.cells]) (by simp) nofun ?_
  intro b17 w2 hb17 hx2 hB17 hS17
  replace hb17 := Nat.le_trans hE.size hb17
  replace hS16 := hS16.ext hx2
  replace hE := hE.ext hx2
  refine R.buildSlice [.int .i64 1, .int .i64 2, .int .i64 3, .int .i64 4] Try.underlying35 t3 rfl rfl (by simp [Value.cells]) (by simp) nofun ?_
  intro b18 w3 hb18 hx3 hB18 hS18
  replace hb18 := Nat.le_trans hE.size hb18
  replace hS16 := hS16.ext hx3
  replace hS17 := hS17.ext hx3
  replace hE := hE.ext hx3
  refine R.buildSlice [.int .i64 3, .int .i64 1, .int .i64 4] Try.underlying35 t3 rfl rfl (by simp [Value.cells]) (by simp) nofun ?_
  intro b19 w4 hb19 hx4 hB19 hS19
  replace hb19 := Nat.le_trans hE.size hb19
  replace hS16 := hS16.ext hx4
  replace hS17 := hS17.ext hx4
  replace hS18 := hS18.ext hx4
  replace hE := hE.ext hx4
  refine R.buildSlice [.int .i64 2, .int .i64 2] Try.underlying35 t3 rfl rfl (by simp [Value.cells]) (by simp) nofun ?_
  intro b20 w5 hb20 hx5 hB20 hS20
  replace hb20 := Nat.le_trans hE.size hb20
  replace hS16 := hS16.ext hx5
  replace hS17 := hS17.ext hx5
  replace hS18 := hS18.ext hx5
  replace hS19 := hS19.ext hx5
  replace hE := hE.ext hx5
  refine R.buildSlice [.int .i64 5] Try.underlying35 t3 rfl rfl (by simp [Value.cells]) (by simp) nofun ?_
  intro b21 w6 hb21 hx6 hB21 hS21
  replace hb21 := Nat.le_trans hE.size hb21
  replace hS16 := hS16.ext hx6
  replace hS17 := hS17.ext hx6
  replace hS18 := hS18.ext hx6
  replace hS19 := hS19.ext hx6
  replace hS20 := hS20.ext hx6
  replace hE := hE.ext hx6
  refine R.buildSlice [.int .i64 0] Try.underlying35 t3 rfl rfl (by simp [Value.cells]) (by simp) nofun ?_
  intro b22 w7 hb22 hx7 hB22 hS22
  replace hb22 := Nat.le_trans hE.size hb22
  replace hS16 := hS16.ext hx7
  replace hS17 := hS17.ext hx7
  replace hS18 := hS18.ext hx7
  replace hS19 := hS19.ext hx7
  replace hS20 := hS20.ext hx7
  replace hS21 := hS21.ext hx7
  replace hE := hE.ext hx7
  refine R.buildSlice [.slice none 0 0, .slice (some ⟨b16, 0, none⟩) 1 1, .slice (some ⟨b17, 0, none⟩) 2 2, .slice (some ⟨b18, 0, none⟩) 4 4, .slice (some ⟨b19, 0, none⟩) 3 3, .slice (some ⟨b20, 0, none⟩) 2 2, .slice (some ⟨b21, 0, none⟩) 1 1, .slice (some ⟨b22, 0, none⟩) 1 1] Try.underlying22 t35 rfl rfl (by simp [Value.cells]) (by simp) nofun ?_
  intro b23 w8 hb23 hx8 hB23 hS23
  replace hb23 := Nat.le_trans hE.size hb23
  replace hS16 := hS16.ext hx8
  replace hS17 := hS17.ext hx8
  replace hS18 := hS18.ext hx8
  replace hS19 := hS19.ext hx8
  replace hS20 := hS20.ext hx8
  replace hS21 := hS21.ext hx8
  replace hS22 := hS22.ext hx8
  replace hE := hE.ext hx8
  refine R.assign ?_
  obtain ⟨wb, hwb⟩ : ∃ x, x = w8 := ⟨_, rfl⟩
  subst hwb
  have hE0 := hE
  clear hE
  have hQQ : ∃ (uo : List Value) (oss : List (List Int)), Mat wb (.slice (some ⟨b23, 0, none⟩) 8 8) uo oss ∧ oss.length = 8 ∧ ∀ o ∈ oss, o.length ≤ 4 := ⟨_, [[], [1], [4, 2], [1, 2, 3, 4], [3, 1, 4], [2, 2], [5], [0]], (mo_of (xss := [[], [1], [4, 2], [1, 2, 3, 4], [3, 1, 4], [2, 2], [5], [0]]) hS23 rfl ⟨SInts.nil _, hS16, hS17, hS18, hS19, hS20, hS21, hS22, trivial⟩).mat, rfl, by decide⟩
  obtain ⟨uo, oss, hQ, hol8, hoe⟩ := hQQ
  have hE : Ext wb wb := Upd.refl _
  clear hS16 hS17 hS18 hS19 hS20 hS21 hS22 hS23
  refine R.nil ?_
  refine E.seq ?_
  refine E.seq ?_
  refine E.regionP rfl ?_
  refine R.assign ?_
  refine R.nil ?_
  refine E.block ?_
  refine E.loop (fun n e wr => ∃ (n0 : Nat), n = 243 - n0 ∧ n0 ≤ 243 ∧ Ext wb wr ∧ Has e [(1, .slice (some ⟨b23, 0, none⟩) 8 8), (2, .int .i64 (n0 : Nat))]) (243) ?_ ?_
  · exact ⟨0, rfl, Nat.zero_le _, hE, rfl, rfl, trivial⟩
  · rintro n e wr ⟨n0, rfl, hn0, hE, hH⟩
    obtain ⟨e, rfl⟩ := hH.ex
    clear hH
    refine E.seq ?_
    refine E.seq ?_
    refine E.regionP rfl ?_
    refine R.move ?_
    refine R.lss rfl rfl rfl ?_
    refine R.nil ?_
    refine E.cond rfl (fun hc25 => ?_) (fun hc25 => ?_)
    · replace hc25 := dT hc25
      refine E.skip ?_
      refine E.seq ?_
      refine E.block ?_
      refine E.seq ?_
      refine E.regionP rfl ?_
      refine R.make (n := 3) (c := 3) Try.underlying22 t35 rfl rfl rfl (Nat.le_refl _) (by omega) (by omega) nofun ?_
      intro b28 w28 hb28 hx28 hB28 hS28
      have hz28 := hE.size
      replace hE := hE.ext hx28
      have hM := MS.empty (w0 := wb) hS28 (fun b e => by simp [vblk] at e; subst e; omega)
      clear hS28 hB28
      refine R.move ?_
      refine R.remN (m := n0) (n := 3) rfl rfl (by omega) ?_
      refine R.addN (m := 1) (n := n0 % 3) rfl rfl (by omega) ?_
      refine R.build (build24 hM.outer.one rfl) rfl ?_
      refine R.alloc t24 nofun ?_
      intro b3 w9 hb3 hx9 hB3
      replace hb3 := Nat.le_trans hE.size hb3
      replace hM := hM.ext hx9
      replace hE := hE.ext hx9
      replace hB3 : Blk _ b3 24 #[.slice none 0 0, .int .i64 0] := hB3
      refine R.storeA t24 hB3 rfl rfl rfl rfl (ones2 hM.outer.one rfl) nofun ?_
      intro w10 hU10 hs10 hN10
      replace hM := hM.upT hU10 hB3 (by decide)
      replace hE := hE.own hU10 hb3
      replace hB3 : Blk _ b3 24 #[.slice (some ⟨b28, 0, none⟩) 3 3, .int .i64 ((1 + n0 % 3 : Nat) : Int)] := hN10
      clear hN10
      refine R.nil ?_
      refine E.seq ?_
      refine E.seq ?_
      refine E.regionP rfl ?_
      refine R.move ?_
      refine R.quoN (m := n0) (n := 3) rfl rfl (by omega) (by omega) ?_
      refine R.assign ?_
      refine R.assign ?_
      refine R.nil ?_
      refine E.block ?_
      refine E.loop (fun n e wr => ∃ (ov : Value) (q left : Nat) (us : List Value) (xss : List (List Int)), n = 5 - q ∧ 1 ≤ q ∧ q ≤ 5 ∧ left ≤ 243 ∧ Ext wb wr ∧ MS wb wr ov us xss ∧ xss.length = 3 ∧ (∀ xs ∈ xss, xs.length ≤ q - 1) ∧ Blk wr b3 24 #[ov, .int .i64 ((1 + n0 % 3 : Nat) : Int)] ∧ Has e [(1, .slice (some ⟨b23, 0, none⟩) 8 8), (2, .int .i64 (n0 : Nat)), (3, .pointer (some ⟨b3, 0, none⟩)), (4, .int .i64 (q : Nat)), (5, .int .i64 (left : Nat))]) (4) ?_ ?_
      · exact ⟨_, 1, n0 / 3, _, _, rfl, by omega, by omega, by omega, hE, hM, by simp, by simp, hB3, rfl, rfl, rfl, rfl, rfl, trivial⟩
      · rintro n e wr ⟨ov, q, left, us, xss, rfl, hq1, hq5, hlf, hE, hM, hxl, hxs, hB3, hH⟩
        obtain ⟨e, rfl⟩ := hH.ex
        clear hH
        refine E.seq ?_
        refine E.seq ?_
        refine E.regionP rfl ?_
        refine R.move ?_
        refine R.leq rfl rfl rfl ?_
        refine R.nil ?_
        refine E.cond rfl (fun hc36 => ?_) (fun hc36 => ?_)
        · replace hc36 := dT hc36
          have hq4 : q ≤ 4 := by omega
          have hl3 : left % 3 < 3 := by omega
          have hAA : ∃ a, left % 3 = a := ⟨_, rfl⟩
          obtain ⟨a, had⟩ := hAA
          have hal : a < xss.length := by omega
          obtain ⟨u, hu, _⟩ := hM.get a hal
          have hxa := hxs _ (List.getElem_mem hal)
          refine E.skip ?_
          refine E.seq ?_
          refine E.block ?_
          refine E.regionW (fun c x => x < wr.heap.size ∧ (c = false → vblk u ≠ some x ∧ vblk ov ≠ some x)) [50]  mixed rfl (by kernel_rfl) ?_
          intro w11 hx11 hh11
          replace hM := hM.ext hx11
          replace hB3 := hB3.ext hx11
          replace hE := hE.ext hx11
          have hEs : Ext w11 w11 := Upd.refl _
          have hS0 := hx11.size
          have hSB : ∀ b, b < w11.heap.size → b < wr.heap.size ∧ (true = false → (fun x => vblk u ≠ some x ∧ vblk ov ≠ some x) b) := fun b hb => ⟨by rw [hh11] at hb; exact hb, nofun⟩
          have hSA : ∀ b, b < w11.heap.size → (fun x => vblk u ≠ some x ∧ vblk ov ≠ some x) b → b < wr.heap.size ∧ (false = false → (fun x => vblk u ≠ some x ∧ vblk ov ≠ some x) b) := fun b hb h => ⟨by rw [hh11] at hb; exact hb, fun _ => h⟩
          have hMs := hM
          have hB3s := hB3
          refine R.fld fa24_0 rfl ?_
          refine R.loadB t22 hB3 rfl rfl rfl (hSA b3 hB3s.lt (⟨hB3.ne_vblk (hM.rowOf hal hu) (by decide), hB3.ne_vblk hM.outer (by decide)⟩)) ?_
          refine R.move ?_
          refine R.remN (m := left) (n := 3) rfl rfl (by omega) ?_
          rw [had]
          refine R.fld fa24_0 rfl ?_
          refine R.loadB t22 hB3 rfl rfl rfl (hSA b3 hB3s.lt (⟨hB3.ne_vblk (hM.rowOf hal hu) (by decide), hB3.ne_vblk hM.outer (by decide)⟩)) ?_
          refine R.move ?_
          refine R.remN (m := left) (n := 3) rfl rfl (by omega) ?_
          rw [had]
          refine R.ix (m := a) Try.underlying22 t35 (by decide) hMs.row rfl rfl hal ?_
          refine R.ldE (j := a) t35 hMs.row hEs rfl hu rfl hSB ?_
          refine R.move ?_
          refine R.move ?_
          refine R.remN (m := n0) (n := 2) rfl rfl (by omega) ?_
          refine R.addN (m := q) (n := n0 % 2) rfl rfl (by omega) ?_
          refine R.remN (m := q + n0 % 2) (n := 4) rfl rfl (by omega) ?_
          refine R.addN (m := (q + n0 % 2) % 4) (n := 1) rfl rfl (by omega) ?_
          refine R.buildSlice [.int .i64 ((((q + n0 % 2) % 4 + 1 : Nat) : Int))] Try.underlying35 t3 rfl rfl (by simp [Value.cells]) (by simp) (fun _ _ _ hb => Nat.lt_of_lt_of_le hb.1 (Nat.le_trans hS0 hEs.size)) ?_
          intro b57 w12 hb57 hx12 hB57 hS57
          replace hb57 := Nat.le_trans hE.size hb57
          replace hM := hM.ext hx12
          replace hB3 := hB3.ext hx12
          replace hE := hE.ext hx12
          replace hEs := hEs.ext hx12
          have hru : SInts _ u xss[a] := hM.rowOf hal hu
          have hMW := hM
          refine R.append (m := 1) Try.underlying35 Try.underlying35 t3 (by decide) rfl hru hS57.row (by simp [cellsOf, Value.cells, Value.oneCell']) rfl rfl (by omega) (by omega) (fun _ b hb => ⟨Nat.lt_of_lt_of_le hb.1 (Nat.le_trans hS0 hEs.size), (hb.2 rfl).1⟩) ?_
          intro v58 w58 hU58 hS58 hd58
          have hO := hM.outer.upS hU58 hru (by decide)
          replace hB3 := hB3.upS hU58 hru (by decide)
          have hsM := hE.size
          replace hE := hE.app hU58 (hM.fs u (List.mem_of_getElem? hu))
          have hR58 : SInts _ v58 (xss[a] ++ [((((q + n0 % 2) % 4 + 1 : Nat) : Int))]) := SInts.app (ys := [((((q + n0 % 2) % 4 + 1 : Nat) : Int))]) (m := 1) (by simpa [cellsOf, Value.cells, ints] using hS58) rfl
          clear hS57 hS58 hM
          refine R.ix (m := a) Try.underlying22 t35 (by decide) hO.row rfl rfl hal ?_
          refine R.stE (j := a) (u := v58) t35 hO rfl rfl hR58.one hal (fun _ x hx h => (h.2 rfl).2 hx) ?_
          intro w83 hU83 hs83 hO83
          have hR83 := hR58.upS hU83 hO (by decide)
          replace hB3 := hB3.upS hU83 hO (by decide)
          replace hE := hE.app hU83 hMW.f
          have hM := MS.set hMW hu ((hU58.mono (fun _ _ h => .inl h)).trans hU83 (fun _ _ h => .inr h)) hO83 hR83 (fun b e => by
            rcases hd58 with ⟨h1, _⟩ | ⟨b', h1, h2, _⟩
            · exact .inl (h1 ▸ e)
            · rw [h1] at e; simp at e; subst e; exact .inr h2) hsM
          clear hMW hO hR58 hd58 hru hO83 hR83
          refine R.nil ?_
          refine E.regionP rfl ?_
          refine R.move ?_
          refine R.addN (m := q) (n := 1) rfl rfl (by omega) ?_
          refine R.move ?_
          refine R.quoN (m := left) (n := 3) rfl rfl (by omega) (by omega) ?_
          refine R.assign ?_
          refine R.assign ?_
          refine R.nil ?_
          exact ⟨5 - (q + 1), by omega, ov, q + 1, left / 3, _, _, rfl, by omega, by omega, by omega, hE, hM, by rw [List.length_set]; exact hxl, sets3 (fun xs h => by have := hxs xs h; omega) (by simp; omega), hB3, rfl, rfl, rfl, rfl, rfl, trivial⟩
        · replace hc36 := dF hc36
          have hF : Fit xss := ⟨by omega, fun xs h => by have := hxs xs h; omega⟩
          have hF2 := hF.take 2
          have hEb := hE
          clear hE
          obtain ⟨wc, hwc⟩ : ∃ x, x = wr := ⟨_, rfl⟩
          subst hwc
          have hE : Ext wc wc := Upd.refl _
          have hm := hM.mat
          have hm2 := hm.take (k := 2) (by omega)
          have hq := hQ.ext hEb
          have hmr := hm.row
          obtain ⟨aov, cov, hov, hcov, _⟩ := hmr
          clear hM
          refine E.exit ?_
          refine E.seq ?_
          refine E.regionP rfl ?_
          refine R.move ?_
          refine R.len Try.underlying22 hQ.row rfl ?_
          refine R.move ?_
          refine R.nil ?_
          refine E.block ?_
          refine E.loop (fun n e wr => ∃ (i : Nat), n = oss.length - i ∧ i ≤ oss.length ∧ Ext wc wr ∧ Blk wr b3 24 #[ov, .int .i64 ((1 + n0 % 3 : Nat) : Int)] ∧ Has e [(1, .slice (some ⟨b23, 0, none⟩) 8 8), (2, .int .i64 (n0 : Nat)), (3, .pointer (some ⟨b3, 0, none⟩)), (60, .slice (some ⟨b23, 0, none⟩) 8 8), (61, .int .i64 oss.length), (62, .int .i64 (i : Nat))]) (oss.length) ?_ ?_
          · exact ⟨0, rfl, Nat.zero_le _, hE, hB3, rfl, rfl, rfl, rfl, rfl, rfl, trivial⟩
          · rintro n e wr ⟨i, rfl, hi, hE, hB3, hH⟩
            obtain ⟨e, rfl⟩ := hH.ex
            clear hH
            refine E.seq ?_
            refine E.regionP rfl ?_
            refine R.lss rfl rfl rfl ?_
            refine R.nil ?_
            refine E.seq ?_
            refine E.cond rfl (fun hc63 => ?_) (fun hc63 => ?_)
            · replace hc63 := dT hc63
              have hi8 : i < oss.length := by omega
              have hoi := hoe _ (List.getElem_mem hi8)
              have hSS : ∃ ss, (runR xss ((1 + n0 % 3 : Nat) : Int) oss[i]).1 = ss := ⟨_, rfl⟩
              obtain ⟨ss, hss⟩ := hSS
              have hsl := runR_len (xss := xss) (h := ((1 + n0 % 3 : Nat) : Int)) (ord := oss[i])
              rw [hss] at hsl
              refine E.skip ?_
              refine E.seq ?_
              refine E.block ?_
              refine E.seq ?_
              refine E.regionP rfl ?_
              refine R.ix Try.underlying22 t35 (by decide) hq.row rfl rfl (by omega) ?_
              obtain ⟨u65, hu65, hr65⟩ := hq.get i (by omega)
              refine R.ld t35 (hq.row.ext hE) rfl hu65 rfl (fun _ _ => trivial) ?_
              refine R.assign ?_
              refine R.nil ?_
              refine E.seq ?_
              refine E.seq ?_
              refine E.regionW (fun _ b => b < wr.heap.size) [] mixed rfl (by kernel_rfl) ?_
              intro w13 hx13 hh13
              replace hB3 := hB3.ext hx13
              replace hE := hE.ext hx13
              have hEs : Ext w13 w13 := Upd.refl _
              have hS0 := hx13.size
              have hSs : ∀ b, b < w13.heap.size → b < wr.heap.size := fun b hb => by rw [hh13] at hb; exact hb
              have hSa : ∀ b, b < wc.heap.size → b < wr.heap.size := fun b hb => by have := hE.size; rw [hh13] at this; omega
              have hB3s := hB3
              refine R.loadAE t24 hB3s hEs rfl rfl rfl hSs ?_
              refine R.move ?_
              refine R.callE2 ent47 (runs_ _ (hm.ext hE) (hr65.ext hE) hF (by omega)) rfl rfl (fun _ _ hb => Nat.lt_of_lt_of_le hb (Nat.le_trans hS0 hEs.size)) ?_
              rintro v68 w14 hx14 rfl
              replace hB3 := hB3.ext hx14
              replace hE := hE.ext hx14
              replace hEs := hEs.ext hx14
              refine R.not rfl ?_
              refine R.move ?_
              refine R.gT rfl rfl ?_
              refine R.loadAE t24 hB3s hEs rfl rfl rfl hSs ?_
              refine R.gT rfl rfl ?_
              refine R.move ?_
              refine R.gT rfl rfl ?_
              refine R.callE2 ent48 (finds_ _ (hm.ext hE) (hr65.ext hE) hF (by omega)) rfl rfl (fun _ _ hb => Nat.lt_of_lt_of_le hb (Nat.le_trans hS0 hEs.size)) ?_
              rintro v73 w15 hx15 rfl
              replace hB3 := hB3.ext hx15
              replace hE := hE.ext hx15
              replace hEs := hEs.ext hx15
              refine R.gT rfl rfl ?_
              refine R.not rfl ?_
              refine R.pickF rfl ?_
              refine R.move ?_
              refine R.gT rfl rfl ?_
              refine R.fld fa24_0 rfl ?_
              refine R.gT rfl rfl ?_
              refine R.loadBE t22 hB3s hEs rfl rfl rfl hSs ?_
              refine R.gT rfl rfl ?_
              refine R.slc (l := 0) (r := 2) Try.underlying22 t35 rfl hov rfl ⟨_, rfl⟩ (by omega) (by omega) ?_
              refine R.gT rfl rfl ?_
              refine R.fld fa24_1 rfl ?_
              refine R.gT rfl rfl ?_
              refine R.loadBE t3 hB3s hEs rfl rfl rfl hSs ?_
              refine R.gT rfl rfl ?_
              refine R.build (build24 hm2.row.one rfl) rfl ?_
              refine R.gT rfl rfl ?_
              refine R.move ?_
              refine R.gT rfl rfl ?_
              refine R.callE2 ent47 (runs_ _ (hm2.ext hE) (hr65.ext hE) hF2 (by omega)) rfl rfl (fun _ _ hb => Nat.lt_of_lt_of_le hb (Nat.le_trans hS0 hEs.size)) ?_
              rintro v84 w16 hx16 rfl
              replace hB3 := hB3.ext hx16
              replace hE := hE.ext hx16
              replace hEs := hEs.ext hx16
              refine R.gT rfl rfl ?_
              refine R.not rfl ?_
              refine R.pickF rfl ?_
              refine R.move ?_
              refine R.gT rfl rfl ?_
              refine R.fld fa24_0 rfl ?_
              refine R.gT rfl rfl ?_
              refine R.loadBE t22 hB3s hEs rfl rfl rfl hSs ?_
              refine R.gT rfl rfl ?_
              refine R.slc (l := 0) (r := 2) Try.underlying22 t35 rfl hov rfl ⟨_, rfl⟩ (by omega) (by omega) ?_
              refine R.gT rfl rfl ?_
              refine R.fld fa24_1 rfl ?_
              refine R.gT rfl rfl ?_
              refine R.loadBE t3 hB3s hEs rfl rfl rfl hSs ?_
              refine R.gT rfl rfl ?_
              refine R.build (build24 hm2.row.one rfl) rfl ?_
              refine R.gT rfl rfl ?_
              refine R.move ?_
              refine R.gT rfl rfl ?_
              refine R.callE2 ent48 (finds_ _ (hm2.ext hE) (hr65.ext hE) hF2 (by omega)) rfl rfl (fun _ _ hb => Nat.lt_of_lt_of_le hb (Nat.le_trans hS0 hEs.size)) ?_
              rintro v95 w17 hx17 rfl
              replace hB3 := hB3.ext hx17
              replace hE := hE.ext hx17
              replace hEs := hEs.ext hx17
              refine R.gT rfl rfl ?_
              refine R.not rfl ?_
              refine R.pickF rfl ?_
              refine R.nil ?_
              refine E.condF rfl ?_
              refine E.skip ?_
              refine E.seq ?_
              refine E.forget [(1, .slice (some ⟨b23, 0, none⟩) 8 8), (2, .int .i64 (n0 : Nat)), (3, .pointer (some ⟨b3, 0, none⟩)), (7, u65), (60, .slice (some ⟨b23, 0, none⟩) 8 8), (61, .int .i64 oss.length), (62, .int .i64 (i : Nat))] ⟨rfl, rfl, rfl, rfl, rfl, rfl, rfl, trivial⟩ (fun e => ?_)
              refine E.regionP rfl ?_
              refine R.loadA t24 hB3 rfl rfl rfl trivial ?_
              refine R.move ?_
              refine R.callE2 ent49 (rRunS _ (hm.ext hE) (hr65.ext hE) (by omega) (fun xs h => hF.2 xs h) (by omega) hss) rfl rfl nofun ?_
              rintro v101 w18 hx18 ⟨u101, e101, rfl, hQ101⟩
              replace hB3 := hB3.ext hx18
              replace hE := hE.ext hx18
              refine R.move ?_
              refine R.extract rfl rfl ?_
              refine R.extract rfl rfl ?_
              refine R.assign ?_
              refine R.assign ?_
              refine R.nil ?_
              refine E.seq ?_
              refine E.regionP rfl ?_
              refine R.move ?_
              refine R.callE1 ent50 (told35 _ hQ101 (by omega)) rfl nofun ?_
              rintro v105 w19 hx19 ⟨hS105, hf105⟩
              replace hf105 := hf105.mono hE.size
              replace hQ101 := hQ101.ext hx19
              replace hB3 := hB3.ext hx19
              replace hE := hE.ext hx19
              refine R.assign ?_
              refine R.nil ?_
              refine E.seq ?_
              refine E.seq ?_
              refine E.forget [(1, .slice (some ⟨b23, 0, none⟩) 8 8), (2, .int .i64 (n0 : Nat)), (3, .pointer (some ⟨b3, 0, none⟩)), (7, u65), (10, v105), (60, .slice (some ⟨b23, 0, none⟩) 8 8), (61, .int .i64 oss.length), (62, .int .i64 (i : Nat))] ⟨rfl, rfl, rfl, rfl, rfl, rfl, rfl, rfl, trivial⟩ (fun e => ?_)
              refine E.regionW (fun c x => x < w19.heap.size ∧ (c = false → vblk v105 ≠ some x)) []  mixed rfl (by kernel_rfl) ?_
              intro w20 hx20 hh20
              replace hQ101 := hQ101.ext hx20
              replace hS105 := hS105.ext hx20
              replace hB3 := hB3.ext hx20
              replace hE := hE.ext hx20
              have hEs : Ext w20 w20 := Upd.refl _
              have hS0 := hx20.size
              have hSB : ∀ b, b < w20.heap.size → b < w19.heap.size ∧ (true = false → (fun x => vblk v105 ≠ some x) b) := fun b hb => ⟨by rw [hh20] at hb; exact hb, nofun⟩
              have hSA : ∀ b, b < w20.heap.size → (fun x => vblk v105 ≠ some x) b → b < w19.heap.size ∧ (false = false → (fun x => vblk v105 ≠ some x) b) := fun b hb h => ⟨by rw [hh20] at hb; exact hb, fun _ => h⟩
              have hQ101s := hQ101
              have hS105s := hS105
              have hB3s := hB3
              refine R.loadA t24 hB3 rfl rfl rfl (hSA b3 hB3s.lt (hB3.ne_vblk hS105 (by decide))) ?_
              refine R.move ?_
              refine R.move ?_
              refine R.callE3 ent43 (checks_ _ (hm.ext hE) (hr65.ext hE) hS105.row hF (by omega) (by omega)) rfl rfl rfl (fun _ _ hb => Nat.lt_of_lt_of_le hb.1 (Nat.le_trans hS0 hEs.size)) ?_
              rintro v109 w21 hx21 rfl
              replace hQ101 := hQ101.ext hx21
              replace hS105 := hS105.ext hx21
              replace hB3 := hB3.ext hx21
              replace hE := hE.ext hx21
              replace hEs := hEs.ext hx21
              refine R.not rfl ?_
              refine R.move ?_
              refine R.gT rfl rfl ?_
              refine R.loadA t24 hB3 rfl rfl rfl (hSA b3 hB3s.lt (hB3.ne_vblk hS105 (by decide))) ?_
              refine R.gT rfl rfl ?_
              refine R.move ?_
              refine R.gT rfl rfl ?_
              refine R.move ?_
              refine R.gT rfl rfl ?_
              refine R.build build68 rfl ?_
              refine R.gT rfl rfl ?_
              refine R.buildSlice [.agg #[.int .i64 1, .int .i64 0, .int .i64 (-1)]] Try.underlying62 t68 rfl rfl (by simp [Value.cells]) (by simp) (fun _ _ _ hb => Nat.lt_of_lt_of_le hb.1 (Nat.le_trans hS0 hEs.size)) ?_
              intro b116 w22 hb116 hx22 hB116 hS116
              replace hb116 := Nat.le_trans hE.size hb116
              replace hQ101 := hQ101.ext hx22
              replace hS105 := hS105.ext hx22
              replace hB3 := hB3.ext hx22
              replace hE := hE.ext hx22
              replace hEs := hEs.ext hx22
              refine R.gT rfl rfl ?_
              refine R.appendK (m := 1) Try.underlying62 Try.underlying62 t68 (by decide) rfl hS105 hS116.row (by simp [cellsOf, Value.cells, Value.oneCell']) rfl rfl (by omega) (by omega) (fun _ b hb => ⟨Nat.lt_of_lt_of_le hb.1 (Nat.le_trans hS0 hEs.size), hb.2 rfl⟩) ?_
              intro v117 w117 hU117 hS117 hK117 hd117
              have hB3x := hB3.upS hU117 hS105 (by decide)
              replace hB3 := hB3x
              replace hE := hE.app hU117 hf105
              replace hEs := (Ext.upd hEs : Upd (fun _ => True) _ _).trans hU117 (fun _ _ _ => trivial)
              replace hS105 := hK117
              have hW117 : Row w117 3 v117 (ss ++ [(1, 0, -1)]).length (stepsC (ss ++ [(1, 0, -1)])) := by
                rw [stepsC_snoc, List.length_append]
                have h9 := hS117.row
                simpa [cellsOf, Value.cells] using h9
              clear hS116 hQ101 hB3x
              refine R.gT rfl rfl ?_
              refine R.callE3 ent43 (checks_ _ (hm.ext hE) (hr65.ext hE) hW117 hF (by omega) (by simp; omega)) rfl rfl rfl (fun _ _ hb => Nat.lt_of_lt_of_le hb.1 (Nat.le_trans hS0 hEs.size)) ?_
              rintro v118 w23 hx23 rfl
              replace hS105 := hS105.ext hx23
              replace hB3 := hB3.ext hx23
              replace hE := hE.ext hx23
              replace hEs := hEs.ext hx23
              refine R.gT rfl rfl ?_
              refine R.not rfl ?_
              refine R.pickF rfl ?_
              refine R.nil ?_
              refine E.condF rfl ?_
              refine E.skip ?_
              refine E.seq ?_
              refine E.forget [(1, .slice (some ⟨b23, 0, none⟩) 8 8), (2, .int .i64 (n0 : Nat)), (3, .pointer (some ⟨b3, 0, none⟩)), (7, u65), (10, v105), (60, .slice (some ⟨b23, 0, none⟩) 8 8), (61, .int .i64 oss.length), (62, .int .i64 (i : Nat))] ⟨rfl, rfl, rfl, rfl, rfl, rfl, rfl, rfl, trivial⟩ (fun e => ?_)
              refine E.regionP rfl ?_
              refine R.assign ?_
              refine R.nil ?_
              refine E.block ?_
              refine E.loop (fun n e wr => ∃ (j : Nat), n = ss.length - j ∧ j ≤ ss.length ∧ Ext wc wr ∧ Sl wr 68 3 v105 ss.length (stepsC ss) ∧ Blk wr b3 24 #[ov, .int .i64 ((1 + n0 % 3 : Nat) : Int)] ∧ Has e [(1, .slice (some ⟨b23, 0, none⟩) 8 8), (2, .int .i64 (n0 : Nat)), (3, .pointer (some ⟨b3, 0, none⟩)), (60, .slice (some ⟨b23, 0, none⟩) 8 8), (61, .int .i64 oss.length), (62, .int .i64 (i : Nat)), (7, u65), (10, v105), (11, .int .i64 (j : Nat))]) (ss.length) ?_ ?_
              · exact ⟨0, rfl, Nat.zero_le _, hE, hS105, hB3, rfl, rfl, rfl, rfl, rfl, rfl, rfl, rfl, rfl, trivial⟩
              · rintro n e wr ⟨j, rfl, hj, hE, hS105, hB3, hH⟩
                obtain ⟨e, rfl⟩ := hH.ex
                clear hH
                refine E.seq ?_
                refine E.seq ?_
                refine E.regionP rfl ?_
                refine R.move ?_
                refine R.move ?_
                refine R.len Try.underlying62 hS105.row rfl ?_
                refine R.lss rfl rfl rfl ?_
                refine R.nil ?_
                refine E.cond rfl (fun hc124 => ?_) (fun hc124 => ?_)
                · replace hc124 := dT hc124
                  have hj1 : j < ss.length := by omega
                  have h9 := hS105
                  obtain ⟨a5, c5, hv5, hc5, _⟩ := h9
                  refine E.skip ?_
                  refine E.seq ?_
                  refine E.block ?_
                  refine E.seq ?_
                  refine E.regionW (fun _ b => b < wr.heap.size) [] mixed rfl (by kernel_rfl) ?_
                  intro w24 hx24 hh24
                  replace hS105 := hS105.ext hx24
                  replace hB3 := hB3.ext hx24
                  replace hE := hE.ext hx24
                  have hEs : Ext w24 w24 := Upd.refl _
                  have hS0 := hx24.size
                  have hSs : ∀ b, b < w24.heap.size → b < wr.heap.size := fun b hb => by rw [hh24] at hb; exact hb
                  have hSa : ∀ b, b < wc.heap.size → b < wr.heap.size := fun b hb => by have := hE.size; rw [hh24] at this; omega
                  have hS105s := hS105
                  have hB3s := hB3
                  refine R.buildSlice [] Try.underlying62 t68 rfl rfl (by simp) (by simp) (fun _ _ _ hb => Nat.lt_of_lt_of_le hb (Nat.le_trans hS0 hEs.size)) ?_
                  intro b127 w127 hb127 hx127 hB127 hS127
                  have hfs127 := fresh_lit (n := 0) (c := 0) hEs hb127
                  have hfc127 := fresh_lit (n := 0) (c := 0) hE hb127
                  replace hS105 := hS105.ext hx127
                  replace hB3 := hB3.ext hx127
                  replace hE := hE.ext hx127
                  replace hEs := hEs.ext hx127
                  clear hB127
                  refine R.move ?_
                  refine R.move ?_
                  refine R.slc (l := 0) (r := j) Try.underlying62 t68 rfl hv5 rfl ⟨_, rfl⟩ (by omega) (by omega) ?_
                  refine R.append (n := 0) (m := ((ss.drop 0).take (j - 0)).length) Try.underlying62 Try.underlying62 t68 (by decide) rfl hS127 (hS105.row.steps (l := 0) (r := j) (by omega) (by omega)) steps_one rfl rfl (by simp; omega) (by simp; omega) (fun _ b hb => ⟨Nat.lt_of_lt_of_le hb (Nat.le_trans hS0 hEs.size), fun e => Nat.lt_irrefl _ (Nat.lt_of_lt_of_le (Nat.lt_of_lt_of_le hb hS0) (hfs127 b e))⟩) ?_
                  intro v131 w131 hU131 hS131 hd131
                  have hfs131 := Fresh.app' hEs.size hfs127 hd131
                  have hfc131 := Fresh.app' hE.size hfc127 hd131
                  replace hS105 := hS105.up hU131 (fun b e h => Nat.lt_irrefl _ (Nat.lt_of_lt_of_le (hS105s.lt b e) (hfs127 b h)))
                  replace hB3 := hB3.upS hU131 hS127 (by decide)
                  replace hE := hE.app hU131 hfc127
                  replace hEs := hEs.app hU131 hfs127
                  clear hS127 hd131
                  refine R.move ?_
                  refine R.move ?_
                  refine R.addN (m := j) (n := 1) rfl rfl (by omega) ?_
                  refine R.slc (l := j + 1) (r := ss.length) Try.underlying62 t68 rfl hv5 ⟨_, rfl⟩ rfl (by omega) (by omega) ?_
                  refine R.append (m := ((ss.drop (j + 1)).take (ss.length - (j + 1))).length) Try.underlying62 Try.underlying62 t68 (by decide) rfl hS131 (hS105.row.steps (l := j + 1) (r := ss.length) (by omega) (by omega)) steps_one rfl rfl (by simp; omega) (by simp; omega) (fun _ b hb => ⟨Nat.lt_of_lt_of_le hb (Nat.le_trans hS0 hEs.size), fun e => Nat.lt_irrefl _ (Nat.lt_of_lt_of_le (Nat.lt_of_lt_of_le hb hS0) (hfs131 b e))⟩) ?_
                  intro v136 w136 hU136 hS136 hd136
                  replace hS105 := hS105.up hU136 (fun b e h => Nat.lt_irrefl _ (Nat.lt_of_lt_of_le (hS105s.lt b e) (hfs131 b h)))
                  replace hB3 := hB3.upS hU136 hS131 (by decide)
                  replace hE := hE.app hU136 hfc131
                  replace hEs := hEs.app hU136 hfs131
                  have hTT : ∃ tt : List (Int × Int × Int), tt.length < 1000 ∧ Sl w136 68 3 v136 tt.length (stepsC tt) := ⟨(ss.drop 0).take (j - 0) ++ (ss.drop (j + 1)).take (ss.length - (j + 1)), by simp; omega, by
                    have e1 : stepsC ((ss.drop 0).take (j - 0) ++ (ss.drop (j + 1)).take (ss.length - (j + 1))) = (cellsOf [] ++ stepsC ((ss.drop 0).take (j - 0))) ++ stepsC ((ss.drop (j + 1)).take (ss.length - (j + 1))) := by simp [stepsC, cellsOf]
                    have e2 : ((ss.drop 0).take (j - 0) ++ (ss.drop (j + 1)).take (ss.length - (j + 1))).length = 0 + ((ss.drop 0).take (j - 0)).length + ((ss.drop (j + 1)).take (ss.length - (j + 1))).length := by rw [List.length_append]; omega
                    rw [e1, e2]; exact hS136⟩
                  obtain ⟨tt, htl, hL⟩ := hTT
                  clear hS131 hS136 hd136
                  refine R.assign ?_
                  refine R.nil ?_
                  refine E.seq ?_
                  refine E.seq ?_
                  refine E.forget [(1, .slice (some ⟨b23, 0, none⟩) 8 8), (2, .int .i64 (n0 : Nat)), (3, .pointer (some ⟨b3, 0, none⟩)), (7, u65), (10, v105), (11, .int .i64 (j : Nat)), (12, v136), (60, .slice (some ⟨b23, 0, none⟩) 8 8), (61, .int .i64 oss.length), (62, .int .i64 (i : Nat))] ⟨rfl, rfl, rfl, rfl, rfl, rfl, rfl, rfl, rfl, rfl, trivial⟩ (fun e => ?_)
                  refine E.regionW (fun _ b => b < w136.heap.size) [] mixed rfl (by kernel_rfl) ?_
                  intro w25 hx25 hh25
                  replace hS105 := hS105.ext hx25
                  replace hL := hL.ext hx25
                  replace hB3 := hB3.ext hx25
                  replace hE := hE.ext hx25
                  have hEs : Ext w25 w25 := Upd.refl _
                  have hS0 := hx25.size
                  have hSs : ∀ b, b < w25.heap.size → b < w136.heap.size := fun b hb => by rw [hh25] at hb; exact hb
                  have hSa : ∀ b, b < wc.heap.size → b < w136.heap.size := fun b hb => by have := hE.size; rw [hh25] at this; omega
                  have hS105s := hS105
                  have hLs := hL
                  have hB3s := hB3
                  refine R.move ?_
                  refine R.move ?_
                  refine R.ix (m := j) Try.underlying62 t68 (by decide) hS105.row rfl rfl hj1 ?_
                  refine R.fldE (j := j * 3) fa68_0 hS105.row (by rw [stepsC_len]; omega) rfl ?_
                  refine R.ldStep (k := 0) t3 hS105s.row hEs hj1 (stepsC_at0 hj1) rfl rfl hSs ?_
                  refine R.addW rfl rfl ?_
                  refine R.move ?_
                  refine R.move ?_
                  refine R.ix (m := j) Try.underlying62 t68 (by decide) hS105.row rfl rfl hj1 ?_
                  refine R.fldE (j := j * 3) fa68_1 hS105.row (by rw [stepsC_len]; omega) rfl ?_
                  refine R.ldStep (k := 1) t3 hS105s.row hEs hj1 (stepsC_at1 hj1) rfl rfl hSs ?_
                  refine R.move ?_
                  refine R.move ?_
                  refine R.ix (m := j) Try.underlying62 t68 (by decide) hS105.row rfl rfl hj1 ?_
                  refine R.fldE (j := j * 3) fa68_2 hS105.row (by rw [stepsC_len]; omega) rfl ?_
                  refine R.ldStep (k := 2) t3 hS105s.row hEs hj1 (stepsC_at2 hj1) rfl rfl hSs ?_
                  refine R.build build68 rfl ?_
                  refine R.move ?_
                  refine R.move ?_
                  refine R.ix (m := j) Try.underlying62 t68 (by decide) hS105.row rfl rfl hj1 ?_
                  refine R.fldE (j := j * 3) fa68_0 hS105.row (by rw [stepsC_len]; omega) rfl ?_
                  refine R.ldStep (k := 0) t3 hS105s.row hEs hj1 (stepsC_at0 hj1) rfl rfl hSs ?_
                  refine R.move ?_
                  refine R.move ?_
                  refine R.ix (m := j) Try.underlying62 t68 (by decide) hS105.row rfl rfl hj1 ?_
                  refine R.fldE (j := j * 3) fa68_1 hS105.row (by rw [stepsC_len]; omega) rfl ?_
                  refine R.ldStep (k := 1) t3 hS105s.row hEs hj1 (stepsC_at1 hj1) rfl rfl hSs ?_
                  refine R.addW rfl rfl ?_
                  refine R.move ?_
                  refine R.move ?_
                  refine R.ix (m := j) Try.underlying62 t68 (by decide) hS105.row rfl rfl hj1 ?_
                  refine R.fldE (j := j * 3) fa68_2 hS105.row (by rw [stepsC_len]; omega) rfl ?_
                  refine R.ldStep (k := 2) t3 hS105s.row hEs hj1 (stepsC_at2 hj1) rfl rfl hSs ?_
                  refine R.build build68 rfl ?_
                  refine R.move ?_
                  refine R.move ?_
                  refine R.ix (m := j) Try.underlying62 t68 (by decide) hS105.row rfl rfl hj1 ?_
                  refine R.fldE (j := j * 3) fa68_0 hS105.row (by rw [stepsC_len]; omega) rfl ?_
                  refine R.ldStep (k := 0) t3 hS105s.row hEs hj1 (stepsC_at0 hj1) rfl rfl hSs ?_
                  refine R.move ?_
                  refine R.move ?_
                  refine R.ix (m := j) Try.underlying62 t68 (by decide) hS105.row rfl rfl hj1 ?_
                  refine R.fldE (j := j * 3) fa68_1 hS105.row (by rw [stepsC_len]; omega) rfl ?_
                  refine R.ldStep (k := 1) t3 hS105s.row hEs hj1 (stepsC_at1 hj1) rfl rfl hSs ?_
                  refine R.move ?_
                  refine R.move ?_
                  refine R.ix (m := j) Try.underlying62 t68 (by decide) hS105.row rfl rfl hj1 ?_
                  refine R.fldE (j := j * 3) fa68_1 hS105.row (by rw [stepsC_len]; omega) rfl ?_
                  refine R.ldStep (k := 1) t3 hS105s.row hEs hj1 (stepsC_at1 hj1) rfl rfl hSs ?_
                  refine R.build build68 rfl ?_
                  refine R.move ?_
                  refine R.move ?_
                  refine R.ix (m := j) Try.underlying62 t68 (by decide) hS105.row rfl rfl hj1 ?_
                  refine R.fldE (j := j * 3) fa68_0 hS105.row (by rw [stepsC_len]; omega) rfl ?_
                  refine R.ldStep (k := 0) t3 hS105s.row hEs hj1 (stepsC_at0 hj1) rfl rfl hSs ?_
                  refine R.move ?_
                  refine R.move ?_
                  refine R.ix (m := j) Try.underlying62 t68 (by decide) hS105.row rfl rfl hj1 ?_
                  refine R.fldE (j := j * 3) fa68_1 hS105.row (by rw [stepsC_len]; omega) rfl ?_
                  refine R.ldStep (k := 1) t3 hS105s.row hEs hj1 (stepsC_at1 hj1) rfl rfl hSs ?_
                  refine R.build build68 rfl ?_
                  refine R.move ?_
                  refine R.move ?_
                  refine R.ix (m := j) Try.underlying62 t68 (by decide) hS105.row rfl rfl hj1 ?_
                  refine R.fldE (j := j * 3) fa68_0 hS105.row (by rw [stepsC_len]; omega) rfl ?_
                  refine R.ldStep (k := 0) t3 hS105s.row hEs hj1 (stepsC_at0 hj1) rfl rfl hSs ?_
                  refine R.build build68 rfl ?_
                  refine R.buildSlice [.agg #[.int .i64 (IntKind.i64.wrap (ss[j].1 + 1)), .int .i64 (ss[j].2.1), .int .i64 (ss[j].2.2)], .agg #[.int .i64 (ss[j].1), .int .i64 (IntKind.i64.wrap (ss[j].2.1 + 1)), .int .i64 (ss[j].2.2)], .agg #[.int .i64 (ss[j].1), .int .i64 (ss[j].2.1), .int .i64 (ss[j].2.1)], .agg #[.int .i64 (ss[j].1), .int .i64 (ss[j].2.1), .int .i64 (3)], .agg #[.int .i64 (ss[j].1), .int .i64 (-1), .int .i64 (-2)]] Try.underlying62 t68 rfl rfl (by simp [Value.cells]) (by simp) (fun _ _ _ hb => Nat.lt_of_lt_of_le hb (Nat.le_trans hS0 hEs.size)) ?_
                  intro b204 w26 hb204 hx26 hB204 hS204
                  replace hb204 := Nat.le_trans hE.size hb204
                  replace hS105 := hS105.ext hx26
                  replace hL := hL.ext hx26
                  replace hB3 := hB3.ext hx26
                  replace hE := hE.ext hx26
                  replace hEs := hEs.ext hx26
                  refine R.lenV Try.underlying62 rfl ?_
                  refine R.move ?_
                  have hXX : ∃ l : List (Int × Int × Int), l = [(IntKind.i64.wrap (ss[j].1 + 1), ss[j].2.1, ss[j].2.2), (ss[j].1, IntKind.i64.wrap (ss[j].2.1 + 1), ss[j].2.2), (ss[j].1, ss[j].2.1, ss[j].2.1), (ss[j].1, ss[j].2.1, 3), (ss[j].1, -1, -2)] := ⟨_, rfl⟩
                  obtain ⟨xs5, hx5⟩ := hXX
                  have hl5 : xs5.length = 5 := by rw [hx5]; rfl
                  have hX := hS204
                  replace hX : Sl w26 68 3 (.slice (some ⟨b204, 0, none⟩) 5 5) xs5.length (stepsC xs5) := by rw [hx5]; exact hS204
                  refine R.nil ?_
                  refine E.block ?_
                  refine E.loop (fun n e wr => ∃ (q : Nat), n = xs5.length - q ∧ q ≤ xs5.length ∧ Ext wc wr ∧ Sl wr 68 3 v105 ss.length (stepsC ss) ∧ Sl wr 68 3 (.slice (some ⟨b204, 0, none⟩) 5 5) xs5.length (stepsC xs5) ∧ Sl wr 68 3 v136 tt.length (stepsC tt) ∧ Blk wr b3 24 #[ov, .int .i64 ((1 + n0 % 3 : Nat) : Int)] ∧ Has e [(1, .slice (some ⟨b23, 0, none⟩) 8 8), (2, .int .i64 (n0 : Nat)), (3, .pointer (some ⟨b3, 0, none⟩)), (60, .slice (some ⟨b23, 0, none⟩) 8 8), (61, .int .i64 oss.length), (62, .int .i64 (i : Nat)), (7, u65), (10, v105), (11, .int .i64 (j : Nat)), (12, v136), (204, .slice (some ⟨b204, 0, none⟩) 5 5), (205, .int .i64 ((5 : Nat) : Int)), (206, .int .i64 (q : Nat))]) (xs5.length) ?_ ?_
                  · exact ⟨0, rfl, Nat.zero_le _, hE, hS105, hX, hL, hB3, rfl, rfl, rfl, rfl, rfl, rfl, rfl, rfl, rfl, rfl, rfl, rfl, rfl, trivial⟩
                  · rintro n e wr ⟨q, rfl, hq9, hE, hS105, hX, hL, hB3, hH⟩
                    obtain ⟨e, rfl⟩ := hH.ex
                    clear hH
                    refine E.seq ?_
                    refine E.regionP rfl ?_
                    refine R.lss rfl rfl rfl ?_
                    refine R.nil ?_
                    refine E.seq ?_
                    refine E.cond rfl (fun hc207 => ?_) (fun hc207 => ?_)
                    · replace hc207 := dT hc207
                      have hq5 : q < xs5.length := by omega
                      refine E.skip ?_
                      refine E.seq ?_
                      refine E.block ?_
                      refine E.seq ?_
                      refine E.regionP rfl ?_
                      refine R.ix (m := q) Try.underlying62 t68 (by decide) hX.row rfl rfl (by omega) ?_
                      refine R.loadE (j := q * 3) t68 (by decide) hX.row rfl (steps_take hq5) rfl rfl (fun _ _ => trivial) ?_
                      refine R.alloc t68 nofun ?_
                      intro b14 w14 hb14 hx14a hB14
                      have hnS : ∀ b, vblk v105 = some b → b ≠ b14 := fun b e h2 => by have := hS105.lt b e; omega
                      have hnX : ∀ b, vblk (.slice (some ⟨b204, 0, none⟩) 5 5) = some b → b ≠ b14 := fun b e h2 => by have := hX.lt b e; omega
                      have hnL : ∀ b, vblk v136 = some b → b ≠ b14 := fun b e h2 => by have := hL.lt b e; omega
                      replace hb14 := Nat.le_trans hE.size hb14
                      replace hS105 := hS105.ext hx14a
                      replace hX := hX.ext hx14a
                      replace hL := hL.ext hx14a
                      replace hB3 := hB3.ext hx14a
                      replace hE := hE.ext hx14a
                      replace hB14 : Blk _ b14 68 #[.int .i64 0, .int .i64 0, .int .i64 0] := hB14
                      refine R.storeA t68 hB14 rfl rfl rfl rfl (ones3 rfl rfl rfl) nofun ?_
                      intro w99 hU99 hs99 hN99
                      replace hS105 := hS105.up hU99 (fun b e => hnS b e)
                      replace hX := hX.up hU99 (fun b e => hnX b e)
                      replace hL := hL.up hU99 (fun b e => hnL b e)
                      replace hB3 := hB3.upT hU99 hB14 (by decide)
                      replace hE := hE.own hU99 hb14
                      replace hB14 : Blk _ b14 68 #[.int .i64 xs5[q].1, .int .i64 xs5[q].2.1, .int .i64 xs5[q].2.2] := hN99
                      refine R.nil ?_
                      refine E.seq ?_
                      refine E.regionP rfl ?_
                      have hS105p := hS105
                      have hXp := hX
                      have hLp := hL
                      have hB14p := hB14
                      refine R.buildSlice [] Try.underlying62 t68 rfl rfl (by simp) (by simp) nofun ?_
                      intro b210 w210 hb210 hx210 hB210 hS210
                      have hfp210 := fresh_lit (n := 0) (c := 0) (Upd.refl (X := none') _) hb210
                      have hfc210 := fresh_lit (n := 0) (c := 0) hE hb210
                      have hszp := hx210.size
                      replace hS105 := hS105.ext hx210
                      replace hX := hX.ext hx210
                      replace hL := hL.ext hx210
                      replace hB3 := hB3.ext hx210
                      replace hB14 := hB14.ext hx210
                      replace hE := hE.ext hx210
                      clear hB210
                      refine R.move ?_
                      refine R.append (n := 0) (m := ss.length) Try.underlying62 Try.underlying62 t68 (by decide) rfl hS210 hS105.row steps_one rfl rfl (by omega) (by omega) nofun ?_
                      intro v212 w212 hU212 hS212 hd212
                      have hfp212 := Fresh.app' hszp hfp210 hd212
                      have hfc212 := Fresh.app' hE.size hfc210 hd212
                      replace hS105 := hS105.up hU212 (fun b e h => Nat.lt_irrefl _ (Nat.lt_of_lt_of_le (hS105p.lt b e) (hfp210 b h)))
                      replace hX := hX.up hU212 (fun b e h => Nat.lt_irrefl _ (Nat.lt_of_lt_of_le (hXp.lt b e) (hfp210 b h)))
                      replace hL := hL.up hU212 (fun b e h => Nat.lt_irrefl _ (Nat.lt_of_lt_of_le (hLp.lt b e) (hfp210 b h)))
                      replace hB14 := hB14.up hU212 (fun h => Nat.lt_irrefl _ (Nat.lt_of_lt_of_le hB14p.lt (hfp210 _ h)))
                      replace hB3 := hB3.upS hU212 hS210 (by decide)
                      replace hE := hE.app hU212 hfc210
                      have hM2 : Sl w212 68 3 v212 ss.length (stepsC ss) := by have h9 := hS212; simpa [cellsOf] using h9
                      clear hS210 hS212 hd212
                      refine R.assign ?_
                      refine R.nil ?_
                      refine E.seq ?_
                      refine E.regionP rfl ?_
                      refine R.move ?_
                      refine R.move ?_
                      refine R.loadA t68 hB14 rfl rfl rfl trivial ?_
                      refine R.ix (m := j) Try.underlying62 t68 (by decide) hM2.row rfl rfl hj1 ?_
                      refine R.stS (m := xs5[q]) (i := j) t68 hM2 rfl rfl hj1 nofun ?_
                      intro w98 hU98 hs98 hM98
                      replace hS105 := hS105.up hU98 (fun b e h => Nat.lt_irrefl _ (Nat.lt_of_lt_of_le (hS105p.lt b e) (hfp212 b h)))
                      replace hX := hX.up hU98 (fun b e h => Nat.lt_irrefl _ (Nat.lt_of_lt_of_le (hXp.lt b e) (hfp212 b h)))
                      replace hL := hL.up hU98 (fun b e h => Nat.lt_irrefl _ (Nat.lt_of_lt_of_le (hLp.lt b e) (hfp212 b h)))
                      replace hB14 := hB14.up hU98 (fun h => Nat.lt_irrefl _ (Nat.lt_of_lt_of_le hB14p.lt (hfp212 _ h)))
                      replace hB3 := hB3.upS hU98 hM2 (by decide)
                      replace hE := hE.app hU98 hfc212
                      replace hM2 : Sl w98 68 3 v212 (ss.set j xs5[q]).length (stepsC (ss.set j xs5[q])) := by rw [List.length_set]; exact hM98
                      refine R.nil ?_
                      refine E.seq ?_
                      refine E.regionP rfl ?_
                      refine R.loadA t24 hB3 rfl rfl rfl trivial ?_
                      refine R.move ?_
                      refine R.move ?_
                      refine R.callE3 ent43 (checks_ _ (hm.ext hE) (hr65.ext hE) hM2.row hF (by omega) (by simp; omega)) rfl rfl rfl nofun ?_
                      rintro v220 w27 hx27 rfl
                      replace hS105 := hS105.ext hx27
                      replace hX := hX.ext hx27
                      replace hL := hL.ext hx27
                      replace hM2 := hM2.ext hx27
                      replace hB3 := hB3.ext hx27
                      replace hB14 := hB14.ext hx27
                      replace hE := hE.ext hx27
                      refine R.not rfl ?_
                      refine R.nil ?_
                      refine E.condF rfl ?_
                      refine E.skip ?_
                      refine E.regionP rfl ?_
                      refine R.addN (n := 1) rfl rfl (by omega) ?_
                      refine R.move ?_
                      refine R.nil ?_
                      exact ⟨xs5.length - (q + 1), by omega, q + 1, rfl, by omega, hE, hS105, hX, hL, hB3, rfl, rfl, rfl, rfl, rfl, rfl, rfl, rfl, rfl, rfl, rfl, rfl, rfl, trivial⟩
                    · replace hc207 := dF hc207
                      refine E.exit ?_
                      refine E.seq ?_
                      refine E.regionP rfl ?_
                      refine R.loadA t24 hB3 rfl rfl rfl trivial ?_
                      refine R.move ?_
                      refine R.move ?_
                      refine R.callE3 ent43 (checks_ _ (hm.ext hE) (hr65.ext hE) hL.row hF (by omega) (by omega)) rfl rfl rfl nofun ?_
                      rintro v226 w28 hx28 rfl
                      replace hS105 := hS105.ext hx28
                      replace hX := hX.ext hx28
                      replace hL := hL.ext hx28
                      replace hB3 := hB3.ext hx28
                      replace hE := hE.ext hx28
                      refine R.not rfl ?_
                      refine R.nil ?_
                      refine E.condF rfl ?_
                      refine E.skip ?_
                      refine E.regionP rfl ?_
                      refine R.move ?_
                      refine R.addN (m := j) (n := 1) rfl rfl (by omega) ?_
                      refine R.assign ?_
                      refine R.nil ?_
                      exact ⟨ss.length - (j + 1), by omega, j + 1, rfl, by omega, hE, hS105, hB3, rfl, rfl, rfl, rfl, rfl, rfl, rfl, rfl, rfl, trivial⟩
                · replace hc124 := dF hc124
                  refine E.exit ?_
                  refine E.regionP rfl ?_
                  refine R.addN (n := 1) rfl rfl (by omega) ?_
                  refine R.move ?_
                  refine R.nil ?_
                  exact ⟨oss.length - (i + 1), by omega, i + 1, rfl, by omega, hE, hB3, rfl, rfl, rfl, rfl, rfl, rfl, trivial⟩
            · replace hc63 := dF hc63
              refine E.exit ?_
              refine E.regionP rfl ?_
              refine R.move ?_
              refine R.addN (m := n0) (n := 1) rfl rfl (by omega) ?_
              refine R.assign ?_
              refine R.nil ?_
              exact ⟨243 - (n0 + 1), by omega, n0 + 1, rfl, by omega, hEb.ext hE, rfl, rfl, trivial⟩
    · replace hc25 := dF hc25
      refine E.exit ?_
      refine E.seq ?_
      refine E.regionP rfl ?_
      refine R.callE0 ent51 (limits35 _)  nofun ?_
      rintro v229 w29 hx29 rfl
      replace hE := hE.ext hx29
      refine R.move ?_
      refine R.gT rfl rfl ?_
      refine R.callE0 ent38 (awake35 _)  nofun ?_
      rintro v231 w30 hx30 rfl
      replace hE := hE.ext hx30
      refine R.pickT rfl ?_
      refine R.assign ?_
      refine R.nil ?_
      refine E.ret ?_
      exact ret1 (.bool true) rfl rfl ⟨_, rfl, hE0.ext hE, rfl⟩
end Go.Proofs.Ytfdmndkoiheebaa
