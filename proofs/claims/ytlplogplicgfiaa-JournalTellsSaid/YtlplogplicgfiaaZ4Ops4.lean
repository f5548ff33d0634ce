import Derived.Test.YtlplogplicgfiaaZ4Ops3
namespace Go.Proofs.Ytlplogplicgfiaa
open Go Go.RowKit
theorem Upd.setCells {w : World} {b o : Nat} (vs : List Value) : Upd (one b) w (w.setCells b o vs) := by
  induction vs generalizing w o with
  | nil => exact Upd.refl w
  | cons v vs ih =>
    have h1 : Upd (one b) w (w.setCell ⟨b, o, none⟩ v) := ⟨rfl, rfl, rfl, by simp [World.setCell], fun c _ hc => heap_setCell_other w ⟨b, o, none⟩ c v hc⟩; exact h1.trans ih fun _ _ h => h
theorem Blk.setCells {w : World} {b o : Nat} {ty : TypeId} {cur : Array Value} (h : Blk w b ty cur) (vs : List Value) (hs : o + vs.length ≤ cur.size) : Blk (w.setCells b o vs) b ty (put cur o vs) := by
  induction vs generalizing w o cur with
  | nil => have e1 : put cur o [] = cur := by apply Array.ext'; simp [put]
           rw [e1]; exact h
  | cons v vs ih =>
    simp only [List.length_cons] at hs; have h1 : Blk (w.setCell ⟨b, o, none⟩ v) b ty (cur.setIfInBounds o v) := heap_setCell_same w b o cur ty v h; have h2 := ih (o := o + 1) h1 (by simp; omega); have e1 : put (cur.setIfInBounds o v) (o + 1) vs = put cur o (v :: vs) := by
      apply Array.ext'; have := list_seg_step cur.toList o v vs (by simp; omega); simp only [put, Array.toList_setIfInBounds, List.length_cons]; simpa [Nat.add_assoc, Nat.add_comm, Nat.add_left_comm] using this
    rw [e1] at h2; exact h2
theorem run_append {P : Program} {w : World} {t tx ty el el' : TypeId} {k by_ : Nat} {g : Bool} {z : Value} (hu : P.underlying t = some (.slice el)) (hux : P.underlying tx = some (.slice el')) (hk : Ty P el k by_ g z) (hk0 : 0 < k) (hz : z.cells.size = k)
    {v u : Value} {n m : Nat} {cs news : List Value} (hs : Sl w el k v n cs) (hr : Row w k u m news) (h1 : ∀ x ∈ news, x.oneCell' = true) (hb : (n + m) * by_ ≤ 140737488355328) (hnm : n + m ≤ 9223372036854775807) :
    ∃ v' w', (Builtin.append_ #[t, tx] ty #[v, u]).run P w = .ok v' w' ∧ Upd (fun b => vblk v = some b) w w' ∧ Sl w' el k v' (n + m) (cs ++ news) ∧
      ((vblk v' = vblk v ∧ n + m ≤ vcap v ∧ vcap v' = vcap v) ∨ (∃ b, vblk v' = some b ∧ w.heap.size ≤ b ∧ Ext w w')) := by
  have src := hr.src hk0 hux h1 (P := P); have hlr := hr.len; obtain ⟨i, hi, hz0, hz1, hz2⟩ := info_parts hk.info; obtain ⟨a, c, rfl, hc, hl, hj⟩ := hs; subst hz1; by_cases hroom : n + m ≤ c
  · rcases hj with ⟨rfl, rfl⟩ | ⟨b, off, cur, rfl, hB, ho, hj⟩
    · obtain rfl : n = 0 := by omega
      obtain rfl : m = 0 := by omega
      have hn : news = [] := List.eq_nil_of_length_eq_zero (by rw [hlr]; simp); have hcs : cs = [] := List.eq_nil_of_length_eq_zero (by rw [hl]; simp); subst hn; subst hcs; refine ⟨.slice none 0 0, w, ?_, Upd.refl _, Sl.nil _ _ _, .inl ⟨rfl, by omega, rfl⟩⟩; have hlen0 := src.len w; have hcells := src.cells; simp [Builtin.append_, underlying, hu, hux, Go.sizeOf, typeInfo, hi, hlen0, hcells]
    · have hcm : n * i.size + m * i.size ≤ c * i.size := by rw [← Nat.add_mul]; exact Nat.mul_le_mul_right _ hroom
      have hfit : off + n * i.size + news.length ≤ cur.size := by rw [hlr]; omega
      have hrun := run_append_room_src (P := P) w t tx ty el i hu hi b off n c u m news src hroom
        (fun j hj => by rw [hB.cell]; simp; omega) (fun j _ => hB.frozen _)
      refine ⟨_, _, hrun, (Upd.setCells news).mono (fun x _ hx => by simp [vblk]; exact hx.symm), ?_, .inl ⟨rfl, hroom, rfl⟩⟩; refine ⟨_, _, rfl, hroom, by rw [List.length_append, hl, hlr, Nat.add_mul], .inr ⟨b, off, _, rfl, hB.setCells news hfit, by rw [put_size hfit]; exact ho, fun j hjl => ?_⟩⟩; rw [List.length_append] at hjl; rw [put_get hfit]; by_cases hjn : j < cs.length
      · rw [if_pos (by omega), List.getElem?_append_left hjn, hj j hjn]
      · rw [if_neg (by omega), if_pos (by omega), List.getElem?_append_right (by omega)]
        congr 1; omega
  · have hfirst : (Builtin.firstCells i.size n (.slice a n c)).run P w.drew = .ok cs.toArray w.drew := by
      rcases hj with ⟨rfl, rfl⟩ | ⟨b, off, cur, rfl, hB, ho, hj⟩
      · obtain rfl : n = 0 := by omega
        have hcs : cs = [] := List.eq_nil_of_length_eq_zero (by rw [hl]; simp); subst hcs; exact run_firstCells_none w.drew _ _ _ _
      · refine run_firstCells_some w.drew _ _ _ _ _ cs hl (fun j x hx => ?_); have hjl : j < cs.length := (List.getElem?_eq_some_iff.1 hx).1; rw [add_none]; show w.cell? _ = _; rw [hB.cell, hj j hjl, hx]
    have hrun := run_append_grow_src (P := P) w t tx ty el i z hu hi hz0 a n c cs hfirst u m news src (by omega) (by omega) (growslice_fits (by omega) (by rw [hz2]; exact hb)); refine ⟨_, _, hrun, ?_, ?_, .inr ⟨_, rfl, Nat.le_refl _, ?_⟩⟩
    · exact (Upd.drew w).trans (Upd.push w.drew _) fun _ _ h => h
    · have hlen : (cs ++ news).length = (n + m) * i.size := by rw [List.length_append, hl, hlr, Nat.add_mul]
      have hge := grownCap_ge w (n + m) c el; refine ⟨_, _, rfl, hge, hlen, .inr ⟨_, 0, _, rfl, Blk.push w.drew _ _, ?_, fun j hjl => ?_⟩⟩
      · simp only [Array.size_append, List.size_toArray, size_zeroCells, hz, hlen, Nat.zero_add, ← Nat.add_mul]; exact Nat.mul_le_mul_right _ (by omega)
      · rw [Nat.zero_add, Array.getElem?_append_left (by simpa using hjl)]; simp
    · exact (Upd.drew w).trans (Upd.push w.drew _) fun _ _ h => h
namespace R
variable {P : Program} {ops : Array Oper} {S : Bool → Nat → Prop} {dr : Bool} {B : List Nat} {F : Env → World → Prop} {rest : List Oper} {e : Env} {w : World}
variable {d : Tmp} {od : Option Tmp} {ty : TypeId} {pos : String} {aft : Array Edge}
theorem append {x y : Operand} {t tx el el' : TypeId} {k by_ : Nat} {g : Bool} {z : Value} (hu : P.underlying t = some (.slice el)) (hux : P.underlying tx = some (.slice el')) (hk : Ty P el k by_ g z) (hk0 : 0 < k) (hz : z.cells.size = k)
    {v u : Value} {n m : Nat} {cs news : List Value} (hs : Sl w el k v n cs) (hr : Row w k u m news) (h1 : ∀ x ∈ news, x.oneCell' = true) (hx : ev e x = v) (hy : ev e y = u) (hb : (n + m) * by_ ≤ 140737488355328) (hnm : n + m ≤ 9223372036854775807)
    (hag : dr = true → ∀ b, S false b → b < w.heap.size ∧ vblk v ≠ some b)
    (h : ∀ v' w', Upd (fun b => vblk v = some b) w w' → Sl w' el k v' (n + m) (cs ++ news) → ((vblk v' = vblk v ∧ n + m ≤ vcap v ∧ vcap v' = vcap v) ∨ (∃ b, vblk v' = some b ∧ w.heap.size ≤ b ∧ Ext w w')) →
      wpR P ops S dr (kind B) F rest (upd e d v') w') : wpR P ops S dr (kind B) F (⟨some d, .call { callee := .builtin .append, args := #[x, y], argTypes := #[t, tx] }, ty, pos, aft, none⟩ :: rest) e w := by
  obtain ⟨v', w', hrun, hU, hS, hd⟩ := run_append (ty := ty) hu hux hk hk0 hz hs hr h1 hb hnm; refine run3 (w' := w') (v := v') rfl ?_ (fun hdr => hU.agree fun b hb => hag hdr b hb) (h v' w' hU hS hd); simp [execOp, resolve, invoke, builtin, hx, hy, hrun]
theorem copy {x y : Operand} {t tx el : TypeId} {by_ : Nat} {g : Bool} {z : Value} (hu : P.underlying t = some (.slice el)) (hk : Ty P el 1 by_ g z)
    {b off dl dc m : Nat} {tb : TypeId} {cur : Array Value} {u : Value} {cs : List Value} (hB : Blk w b tb cur) (hr : Row w 1 u m cs) (h1 : ∀ x ∈ cs, x.oneCell' = true) (hx : ev e x = .slice (some ⟨b, off, none⟩) dl dc) (hy : ev e y = u) (hfit : off + dl ≤ cur.size)
    (hag : dr = true → ¬ S false b)
    (h : ∀ w', Upd (one b) w w' → w'.heap.size = w.heap.size → Blk w' b tb (put cur off (cs.take dl)) → wpR P ops S dr (kind B) F rest (upd e d (.int .i64 (min m dl : Nat))) w') :
    wpR P ops S dr (kind B) F (⟨some d, .call { callee := .builtin .copy, args := #[x, y], argTypes := #[t, tx] }, ty, pos, aft, none⟩ :: rest) e w := by
  have hlen := hr.len; obtain ⟨a, c, rfl, hc, hl, hj⟩ := hr; have hcells : (Builtin.firstCells 1 (Nat.min m dl) (.slice a m c)).run P w = .ok (cs.take dl).toArray w := by
    cases a with
    | none =>
      have h0 : cs = [] := by
        cases cs with
        | nil => rfl
        | cons c cs => obtain ⟨p, hp, _⟩ := hj 0 (by simp); cases hp
      subst h0; simp [Builtin.firstCells]
    | some p =>
      refine run_firstCells_some w 1 _ p m c (cs.take dl) (by simp [hl, Nat.min_comm]) (fun j x hx => ?_); have hjl : j < (cs.take dl).length := (List.getElem?_eq_some_iff.1 hx).1; simp only [List.length_take] at hjl; obtain ⟨p', hp', hq⟩ := hj j (by omega); obtain rfl := Option.some.inj hp'; rw [hq, ← hx, List.getElem?_take, if_pos (by omega)]
  have hst := run_storeCells_at P b off tb (cs.take dl) 0 cur w hB (by simp; omega) (fun x hx => h1 x (List.mem_of_mem_take hx)); simp only [Nat.add_zero] at hst; refine run3 (w' := w.setRow b (put cur off (cs.take dl))) (v := .int .i64 (min m dl : Nat)) rfl ?_ (fun hd c hc => setRow_other w b c _ (fun e => hag hd (e ▸ hc))) (h _ (Upd.setRow _) (by simp) (hB.setRow _)); have hcells' : (Builtin.firstCells 1 (min m dl) (.slice a m c)).run P w = .ok (cs.take dl).toArray w := hcells; simp [execOp, resolve, invoke, builtin, hx, hy, Builtin.copy_, underlying, hu, Builtin.lenOf, hk.sizeOf, hcells', hst, goInt, put]
theorem make {t el : TypeId} {by_ : Nat} {g : Bool} {z : Value} {x y : Operand} {n c : Nat} {kl kc : IntKind} (hu : P.underlying t = some (.slice el)) (hk : Ty P el 1 by_ g z) (hz : z.cells = #[z]) (hx : ev e x = .int kl n) (hy : ev e y = .int kc c) (hnc : n ≤ c) (hb : by_ * c ≤ 281474976710656) (hc : c ≤ 9223372036854775807)
    (hag : dr = true → ∀ c b, S c b → b < w.heap.size)
    (h : ∀ b w', w.heap.size ≤ b → Ext w w' → Blk w' b el (Array.replicate c z) → Sl w' el 1 (.slice (some ⟨b, 0, none⟩) n c) n (List.replicate n z) → wpR P ops S dr (kind B) F rest (upd e d (.slice (some ⟨b, 0, none⟩) n c)) w') :
    wpR P ops S dr (kind B) F (⟨some d, .makeSlice t x y, ty, pos, aft, none⟩ :: rest) e w := by
  obtain ⟨i, hi, hz0, hz1, hz2⟩ := info_parts hk.info; have hb2 : ((by_ * c : Nat) : Int) ≤ 281474976710656 := by omega
  rw [Int.natCast_mul] at hb2; have hrun := run_make (P := P) w t el i z hu hi hz0 kl kc n c (by omega) (by omega) (by rw [hz2]; exact hb2) (by omega); have e1 : madeCells z.cells (((c : Int)).toNat * i.size) = Array.replicate c z := by
    apply Array.ext'; rw [hz, hz1, toList_madeCells_one]; simp
  rw [e1] at hrun; simp only [Int.toNat_natCast] at hrun; have hE : Ext w (w.alloc (.cells (Array.replicate c z) el)) := Upd.push _ _; have hB : Blk (w.alloc (.cells (Array.replicate c z) el)) w.heap.size el (Array.replicate c z) := Blk.push _ _ _; refine run2 (w' := w.alloc (.cells (Array.replicate c z) el)) (v := .slice (some ⟨w.heap.size, 0, none⟩) n c) rfl ?_ (fun hd x => hE.agree fun b hb => ⟨hag hd x b hb, id⟩)
    (h _ _ (Nat.le_refl _) hE hB ⟨_, _, rfl, hnc, by simp, .inr ⟨_, 0, _, rfl, hB, by simp, fun j hj => by
      simp at hj; have : j < c := by omega
      simp [this, hj]⟩⟩)
  simp [execOp, hx, hy, hrun]
end R
end Go.Proofs.Ytlplogplicgfiaa
