import Derived.Test.YtlplogplicgfiaaZ5Ops3
import Derived.Test.YtlplogplicgfiaaProg
namespace Go.Proofs.Ytlplogplicgfiaa
open Go Go.RowKit
theorem Upd.setCells {w : World} {b o : Nat} (vs : List Value) : Upd (one b) w (w.setCells b o vs) := by
  induction vs generalizing w o with
  | nil => exact Upd.refl w
  | cons v vs ih =>
    have h1 : Upd (one b) w (w.setCell ⟨b, o, none⟩ v) := ⟨rfl, rfl, rfl, by simp [World.setCell], fun c _ hc => heap_setCell_other w ⟨b, o, none⟩ c v hc⟩
    exact h1.trans ih fun _ _ h => h
theorem Blk.setCells {w : World} {b o : Nat} {ty : TypeId} {cur : Array Value} (h : Blk w b ty cur) (vs : List Value) (hs : o + vs.length ≤ cur.size) : Blk (w.setCells b o vs) b ty (put cur o vs) := by
  induction vs generalizing w o cur with
  | nil => have e1 : put cur o [] = cur := by apply Array.ext'; simp [put]
           rw [e1]; exact h
  | cons v vs ih =>
    simp only [List.length_cons] at hs
    have h1 : Blk (w.setCell ⟨b, o, none⟩ v) b ty (cur.setIfInBounds o v) := heap_setCell_same w b o cur ty v h
    have h2 := ih (o := o + 1) h1 (by simp; omega)
    have e1 : put (cur.setIfInBounds o v) (o + 1) vs = put cur o (v :: vs) := by
      apply Array.ext'
      have := list_seg_step cur.toList o v vs (by simp; omega)
      simp only [put, Array.toList_setIfInBounds, List.length_cons]
      simpa [Nat.add_assoc, Nat.add_comm, Nat.add_left_comm] using this
    rw [e1] at h2
    exact h2
theorem run_append {P : Program} {w : World} {t tx ty el el' : TypeId} {k by_ : Nat} {g : Bool} {z : Value} (hu : P.underlying t = some (.slice el)) (hux : P.underlying tx = some (.slice el')) (hk : Ty P el k by_ g z) (hk0 : 0 < k) (hz : z.cells.size = k)
    {v u : Value} {n m : Nat} {cs news : List Value} (hs : Sl w el k v n cs) (hr : Row w k u m news) (h1 : ∀ x ∈ news, x.oneCell' = true) (hb : (n + m) * by_ ≤ 140737488355328) (hnm : n + m ≤ 9223372036854775807) :
    ∃ v' w', (Builtin.append_ #[t, tx] ty #[v, u]).run P w = .ok v' w' ∧ Upd (fun b => vblk v = some b) w w' ∧ Sl w' el k v' (n + m) (cs ++ news) ∧
      ((vblk v' = vblk v ∧ n + m ≤ vcap v ∧ vcap v' = vcap v) ∨ (∃ b, vblk v' = some b ∧ w.heap.size ≤ b ∧ Ext w w')) := by
  have src := hr.src hk0 hux h1 (P := P)
  have hlr := hr.len
  obtain ⟨i, hi, hz0, hz1, hz2⟩ := info_parts hk.info
  obtain ⟨a, c, rfl, hc, hl, hj⟩ := hs
  subst hz1
  by_cases hroom : n + m ≤ c
  · rcases hj with ⟨rfl, rfl⟩ | ⟨b, off, cur, rfl, hB, ho, hj⟩
    · obtain rfl : n = 0 := by omega
      obtain rfl : m = 0 := by omega
      have hn : news = [] := List.eq_nil_of_length_eq_zero (by rw [hlr]; simp)
      have hcs : cs = [] := List.eq_nil_of_length_eq_zero (by rw [hl]; simp)
      subst hn; subst hcs
      refine ⟨.slice none 0 0, w, ?_, Upd.refl _, Sl.nil _ _ _, .inl ⟨rfl, by omega, rfl⟩⟩
      have hlen0 := src.len w
      have hcells := src.cells
      simp [Builtin.append_, underlying, hu, hux, Go.sizeOf, typeInfo, hi, hlen0, hcells]
    · have hcm : n * i.size + m * i.size ≤ c * i.size := by rw [← Nat.add_mul]; exact Nat.mul_le_mul_right _ hroom
      have hfit : off + n * i.size + news.length ≤ cur.size := by rw [hlr]; omega
      have hrun := run_append_room_src (P := P) w t tx ty el i hu hi b off n c u m news src hroom
        (fun j hj => by rw [hB.cell]; simp; omega) (fun j _ => hB.frozen _)
      refine ⟨_, _, hrun, (Upd.setCells news).mono (fun x _ hx => by simp [vblk]; exact hx.symm), ?_, .inl ⟨rfl, hroom, rfl⟩⟩
      refine ⟨_, _, rfl, hroom, by rw [List.length_append, hl, hlr, Nat.add_mul], .inr ⟨b, off, _, rfl, hB.setCells news hfit, by rw [put_size hfit]; exact ho, fun j hjl => ?_⟩⟩
      rw [List.length_append] at hjl
      rw [put_get hfit]
      by_cases hjn : j < cs.length
      · rw [if_pos (by omega), List.getElem?_append_left hjn, hj j hjn]
      · rw [if_neg (by omega), if_pos (by omega), List.getElem?_append_right (by omega)]
        congr 1; omega
  · have hfirst : (Builtin.firstCells i.size n (.slice a n c)).run P w.drew = .ok cs.toArray w.drew := by
      rcases hj with ⟨rfl, rfl⟩ | ⟨b, off, cur, rfl, hB, ho, hj⟩
      · obtain rfl : n = 0 := by omega
        have hcs : cs = [] := List.eq_nil_of_length_eq_zero (by rw [hl]; simp)
        subst hcs
        exact run_firstCells_none w.drew _ _ _ _
      · refine run_firstCells_some w.drew _ _ _ _ _ cs hl (fun j x hx => ?_)
        have hjl : j < cs.length := (List.getElem?_eq_some_iff.1 hx).1
        rw [add_none]
        show w.cell? _ = _
        rw [hB.cell, hj j hjl, hx]
    have hrun := run_append_grow_src (P := P) w t tx ty el i z hu hi hz0 a n c cs hfirst u m news src (by omega) (by omega) (growslice_fits (by omega) (by rw [hz2]; exact hb))
    refine ⟨_, _, hrun, ?_, ?_, .inr ⟨_, rfl, Nat.le_refl _, ?_⟩⟩
    · exact (Upd.drew w).trans (Upd.push w.drew _) fun _ _ h => h
    · have hlen : (cs ++ news).length = (n + m) * i.size := by rw [List.length_append, hl, hlr, Nat.add_mul]
      have hge := grownCap_ge w (n + m) c el
      refine ⟨_, _, rfl, hge, hlen, .inr ⟨_, 0, _, rfl, Blk.push w.drew _ _, ?_, fun j hjl => ?_⟩⟩
      · simp only [Array.size_append, List.size_toArray, size_zeroCells, hz, hlen, Nat.zero_add, ← Nat.add_mul]
        exact Nat.mul_le_mul_right _ (by omega)
      · rw [Nat.zero_add, Array.getElem?_append_left (by simpa using hjl)]; simp
    · exact (Upd.drew w).trans (Upd.push w.drew _) fun _ _ h => h
namespace R
variable {P : Program} {ops : Array Oper} {S : Bool → Nat → Prop} {dr : Bool} {B : List Nat} {F : Env → World → Prop} {rest : List Oper} {e : Env} {w : World}
variable {d : Tmp} {od : Option Tmp} {ty : TypeId} {pos : String} {aft : Array Edge}
theorem append {x y : Operand} {t tx el el' : TypeId} {k by_ : Nat} {g : Bool} {z : Value} (hu : P.underlying t = some (.slice el)) (hux : P.underlying tx = some (.slice el')) (hk : Ty P el k by_ g z) (hk0 : 0 < k) (hz : z.cells.size = k)
    {v u : Value} {n m : Nat} {cs news : List Value} (hs : Sl w el k v n cs) (hr : Row w k u m news) (h1 : ∀ x ∈ news, x.oneCell' = true) (hx : ev e x = v) (hy : ev e y = u) (hb : (n + m) * by_ ≤ 140737488355328) (hnm : n + m ≤ 9223372036854775807)
    (hag : dr = true → ∀ b, S false b → b < w.heap.size ∧ vblk v ≠ some b)
    (h : ∀ v' w', Upd (fun b => vblk v = some b) w w' → Sl w' el k v' (n + m) (cs ++ news) → ((vblk v' = vblk v ∧ n + m ≤ vcap v ∧ vcap v' = vcap v) ∨ (∃ b, vblk v' = some b ∧ w.heap.size ≤ b ∧ Ext w w')) →
      wpR P ops S dr (kind B) F rest (upd e d v') w') : wpR P ops S dr (kind B) F (⟨some d, .call { callee := .builtin .append, args := #[x, y], argTypes := #[t, tx] }, ty, pos, aft, none⟩ :: rest) e w := by
  obtain ⟨v', w', hrun, hU, hS, hd⟩ := run_append (ty := ty) hu hux hk hk0 hz hs hr h1 hb hnm
  refine run3 (w' := w') (v := v') rfl ?_ (fun hdr => hU.agree fun b hb => hag hdr b hb) (h v' w' hU hS hd)
  simp [execOp, resolve, invoke, builtin, hx, hy, hrun]
theorem copy {x y : Operand} {t tx el : TypeId} {by_ : Nat} {g : Bool} {z : Value} (hu : P.underlying t = some (.slice el)) (hk : Ty P el 1 by_ g z)
    {b off dl dc m : Nat} {tb : TypeId} {cur : Array Value} {u : Value} {cs : List Value} (hB : Blk w b tb cur) (hr : Row w 1 u m cs) (h1 : ∀ x ∈ cs, x.oneCell' = true) (hx : ev e x = .slice (some ⟨b, off, none⟩) dl dc) (hy : ev e y = u) (hfit : off + dl ≤ cur.size)
    (hag : dr = true → ¬ S false b)
    (h : ∀ w', Upd (one b) w w' → w'.heap.size = w.heap.size → Blk w' b tb (put cur off (cs.take dl)) → wpR P ops S dr (kind B) F rest (upd e d (.int .i64 (min m dl : Nat))) w') :
    wpR P ops S dr (kind B) F (⟨some d, .call { callee := .builtin .copy, args := #[x, y], argTypes := #[t, tx] }, ty, pos, aft, none⟩ :: rest) e w := by
  have hlen := hr.len
  obtain ⟨a, c, rfl, hc, hl, hj⟩ := hr
  have hcells : (Builtin.firstCells 1 (Nat.min m dl) (.slice a m c)).run P w = .ok (cs.take dl).toArray w := by
    cases a with
    | none =>
      have h0 : cs = [] := by
        cases cs with
        | nil => rfl
        | cons c cs => obtain ⟨p, hp, _⟩ := hj 0 (by simp); cases hp
      subst h0
      simp [Builtin.firstCells]
    | some p =>
      refine run_firstCells_some w 1 _ p m c (cs.take dl) (by simp [hl, Nat.min_comm]) (fun j x hx => ?_)
      have hjl : j < (cs.take dl).length := (List.getElem?_eq_some_iff.1 hx).1
      simp only [List.length_take] at hjl
      obtain ⟨p', hp', hq⟩ := hj j (by omega)
      obtain rfl := Option.some.inj hp'
      rw [hq, ← hx, List.getElem?_take, if_pos (by omega)]
  have hst := run_storeCells_at P b off tb (cs.take dl) 0 cur w hB (by simp; omega) (fun x hx => h1 x (List.mem_of_mem_take hx))
  simp only [Nat.add_zero] at hst
  refine run3 (w' := w.setRow b (put cur off (cs.take dl))) (v := .int .i64 (min m dl : Nat)) rfl ?_ (fun hd c hc => setRow_other w b c _ (fun e => hag hd (e ▸ hc))) (h _ (Upd.setRow _) (by simp) (hB.setRow _))
  have hcells' : (Builtin.firstCells 1 (min m dl) (.slice a m c)).run P w = .ok (cs.take dl).toArray w := hcells
  simp [execOp, resolve, invoke, builtin, hx, hy, Builtin.copy_, underlying, hu, Builtin.lenOf, hk.sizeOf, hcells', hst, goInt, put]
theorem make {t el : TypeId} {by_ : Nat} {g : Bool} {z : Value} {x y : Operand} {n c : Nat} {kl kc : IntKind} (hu : P.underlying t = some (.slice el)) (hk : Ty P el 1 by_ g z) (hz : z.cells = #[z]) (hx : ev e x = .int kl n) (hy : ev e y = .int kc c) (hnc : n ≤ c) (hb : by_ * c ≤ 281474976710656) (hc : c ≤ 9223372036854775807)
    (hag : dr = true → ∀ c b, S c b → b < w.heap.size)
    (h : ∀ b w', w.heap.size ≤ b → Ext w w' → Blk w' b el (Array.replicate c z) → Sl w' el 1 (.slice (some ⟨b, 0, none⟩) n c) n (List.replicate n z) → wpR P ops S dr (kind B) F rest (upd e d (.slice (some ⟨b, 0, none⟩) n c)) w') :
    wpR P ops S dr (kind B) F (⟨some d, .makeSlice t x y, ty, pos, aft, none⟩ :: rest) e w := by
  obtain ⟨i, hi, hz0, hz1, hz2⟩ := info_parts hk.info
  have hb2 : ((by_ * c : Nat) : Int) ≤ 281474976710656 := by omega
  rw [Int.natCast_mul] at hb2
  have hrun := run_make (P := P) w t el i z hu hi hz0 kl kc n c (by omega) (by omega) (by rw [hz2]; exact hb2) (by omega)
  have e1 : madeCells z.cells (((c : Int)).toNat * i.size) = Array.replicate c z := by
    apply Array.ext'
    rw [hz, hz1, toList_madeCells_one]; simp
  rw [e1] at hrun
  simp only [Int.toNat_natCast] at hrun
  have hE : Ext w (w.alloc (.cells (Array.replicate c z) el)) := Upd.push _ _
  have hB : Blk (w.alloc (.cells (Array.replicate c z) el)) w.heap.size el (Array.replicate c z) := Blk.push _ _ _
  refine run2 (w' := w.alloc (.cells (Array.replicate c z) el)) (v := .slice (some ⟨w.heap.size, 0, none⟩) n c) rfl ?_ (fun hd x => hE.agree fun b hb => ⟨hag hd x b hb, id⟩)
    (h _ _ (Nat.le_refl _) hE hB ⟨_, _, rfl, hnc, by simp, .inr ⟨_, 0, _, rfl, hB, by simp, fun j hj => by
      simp at hj
      have : j < c := by omega
      simp [this, hj]⟩⟩)
  simp [execOp, hx, hy, hrun]
end R
end Go.Proofs.Ytlplogplicgfiaa

namespace Go.Proofs.Ytlplogplicgfiaa
open Go Go.RowKit
theorem mixed : Try.prog.follows .mixedOrders = true := by kernel_rfl
def Has (e : Env) : List (Nat × Value) → Prop
  | [] => True
  | (t, v) :: l => e t = v ∧ Has e l
def mk (e : Env) : List (Nat × Value) → Env
  | [] => e
  | (t, v) :: l => upd (mk e l) t v
theorem upd_self (e : Env) (t : Nat) : upd e t (e t) = e := by
  obtain ⟨f, ms⟩ := e
  simp only [upd, Env.mk.injEq, and_true]
  funext s; split <;> simp_all
theorem Has.mk : ∀ {l : List (Nat × Value)} {e : Env}, Has e l → e = mk e l
  | [], _, _ => rfl
  | (t, v) :: l, e, ⟨h1, h2⟩ => by
    have := Has.mk h2
    show e = upd (Ytlplogplicgfiaa.mk e l) t v
    rw [← this, ← h1, upd_self]
theorem Has.ex {l : List (Nat × Value)} {e : Env} (h : Has e l) : ∃ e0, e = Ytlplogplicgfiaa.mk e0 l := ⟨e, h.mk⟩
theorem ret1 {P : Program} {fn : Func} {R : Ending → World → Prop} {e : Env} {w : World} {t : Tmp} (v : Value) (hr : fn.results = #[.tmp t]) (hv : e t = v) (h : R (.returned v) w) : bodyE P fn R .ret e w :=
  ⟨v, fun tmps ht => by rw [results_tmp hr, ht, hv], h⟩
theorem ret2 {P : Program} {fn : Func} {R : Ending → World → Prop} {e : Env} {w : World} {t u : Tmp} (v1 v2 : Value) (hr : fn.results = #[.tmp t, .tmp u]) (h1 : e t = v1) (h2 : e u = v2) (h : R (.returned (.tuple #[v1, v2])) w) : bodyE P fn R .ret e w :=
  ⟨_, fun tmps ht => by rw [results_tmp2 hr, ht, ht, h1, h2], h⟩
theorem end0 {P : Program} {fn : Func} {R : Ending → World → Prop} {e : Env} {w : World} (hr : fn.results = #[]) (h : R (.returned (.tuple #[])) w) : bodyE P fn R .normal e w :=
  ⟨_, fun tmps _ => by rw [results_none hr], h⟩
theorem run_loadA {P : Program} {w : World} {t : TypeId} {k by_ b : Nat} {z : Value} {tb : TypeId} {cs : Array Value} (hk : Ty P t k by_ true z) (hb : Blk w b tb cs) (hi : cs.size = k) : (loadVar t ⟨b, 0, none⟩).run P w = .ok (.agg cs) w := by
  have hl : (loadCells ⟨b, 0, none⟩ cs.toList.length).run P w = .ok cs.toList.toArray w := run_loadCells_list (P := P) (w := w) ⟨b, 0, none⟩ cs.toList (fun j v hj => by
    rw [add_none, hb.cell]; simpa using hj)
  simp only [Array.length_toList, Array.toArray_toList, hi] at hl
  simp [loadVar, hk.isAgg, hk.sizeOf, hl]
theorem retA {P : Program} {fn : Func} {R : Ending → World → Prop} {e : Env} {w : World} {t : Tmp} {T : TypeId} {k by_ b : Nat} {z : Value} {cs : Array Value} {tb : TypeId} (hk : Ty P T k by_ true z) (hb : Blk w b tb cs) (hi : cs.size = k) (hr : fn.results = #[.cell t T]) (hv : e t = .pointer (some ⟨b, 0, none⟩)) (h : R (.returned (.agg cs)) w) : bodyE P fn R .ret e w :=
  ⟨_, fun tmps ht => by
    simp only [Array.getD_eq_getD_getElem?] at ht
    simp [results, hr, ht, hv, asAddr, run_loadA hk hb hi], h⟩
theorem retA1 {P : Program} {fn : Func} {R : Ending → World → Prop} {e : Env} {w : World} {t u : Tmp} {T : TypeId} {k by_ b : Nat} {z : Value} {cs : Array Value} (v2 : Value) {tb : TypeId} (hk : Ty P T k by_ true z) (hb : Blk w b tb cs) (hi : cs.size = k) (hr : fn.results = #[.cell t T, .tmp u]) (hv : e t = .pointer (some ⟨b, 0, none⟩)) (h2 : e u = v2)
    (h : R (.returned (.tuple #[.agg cs, v2])) w) : bodyE P fn R .ret e w :=
  ⟨_, fun tmps ht => by
    simp only [Array.getD_eq_getD_getElem?] at ht
    simp [results, hr, ht, hv, h2, asAddr, run_loadA hk hb hi], h⟩
theorem t3 : Ty Try.prog 3 1 8 false (.int .i64 0) := ⟨by kernel_rfl, _, Try.underlying3, rfl⟩
theorem t4 : Ty Try.prog 4 1 1 false (.bool false) := ⟨by kernel_rfl, _, Try.underlying4, rfl⟩
theorem t5 : Ty Try.prog 5 1 1 false (.int .u8 0) := ⟨by kernel_rfl, _, Try.underlying5, rfl⟩
theorem t22 : Ty Try.prog 22 1 24 false (.slice none 0 0) := ⟨by kernel_rfl, _, Try.underlying22, rfl⟩
theorem t23 : Ty Try.prog 23 1 24 false (.slice none 0 0) := ⟨by kernel_rfl, _, Try.underlying23, rfl⟩
theorem t25 : Ty Try.prog 25 4 64 true (.agg #[.slice none 0 0, .slice none 0 0, .int .i64 0, .bool false]) := ⟨by kernel_rfl, _, Try.underlying25, rfl⟩
theorem t26 : Ty Try.prog 26 64 64 true (.agg (Array.replicate 64 (.int .u8 0))) := ⟨by kernel_rfl, _, Try.underlying26, rfl⟩
theorem t27 : Ty Try.prog 27 64 64 true (.agg (Array.replicate 64 (.int .u8 0))) := ⟨by kernel_rfl, _, Try.underlying27, rfl⟩
theorem t29 : Ty Try.prog 29 1 24 false (.slice none 0 0) := ⟨by kernel_rfl, _, Try.underlying29, rfl⟩
theorem t31 : Ty Try.prog 31 4 64 true (.agg #[.slice none 0 0, .slice none 0 0, .int .i64 0, .bool false]) := ⟨by kernel_rfl, _, Try.underlying31, rfl⟩
theorem t32 : Ty Try.prog 32 1 8 false (.pointer none) := ⟨by kernel_rfl, _, Try.underlying32, rfl⟩
theorem t54 : Ty Try.prog 54 1 24 false (.slice none 0 0) := ⟨by kernel_rfl, _, Try.underlying54, rfl⟩
theorem t55 : Ty Try.prog 55 1 24 false (.slice none 0 0) := ⟨by kernel_rfl, _, Try.underlying55, rfl⟩
theorem t67 : Ty Try.prog 67 1 24 false (.slice none 0 0) := ⟨by kernel_rfl, _, Try.underlying67, rfl⟩
theorem t84 : Ty Try.prog 84 1 24 false (.slice none 0 0) := ⟨by kernel_rfl, _, Try.underlying84, rfl⟩
theorem t86 : Ty Try.prog 86 5 56 true (.agg #[.pointer none, .slice none 0 0, .int .i64 0, .int .i64 0, .bool false]) := ⟨by kernel_rfl, _, Try.underlying86, rfl⟩
theorem t93 : Ty Try.prog 93 10 144 true (.agg #[.slice none 0 0, .slice none 0 0, .int .i64 0, .bool false, .slice none 0 0, .slice none 0 0, .int .i64 0, .int .i64 0, .int .i64 0, .bool false]) := ⟨by kernel_rfl, _, Try.underlying93, rfl⟩
theorem t103 : Ty Try.prog 103 4 32 true (.agg #[.int .i64 0, .int .i64 0, .int .i64 0, .int .i64 0]) := ⟨by kernel_rfl, _, Try.underlying103, rfl⟩
theorem t106 : Ty Try.prog 106 6 64 true (.agg #[.int .i64 0, .int .i64 0, .int .i64 0, .int .i64 0, .int .i64 0, .slice none 0 0]) := ⟨by kernel_rfl, _, Try.underlying106, rfl⟩
theorem t115 : Ty Try.prog 115 1 24 false (.slice none 0 0) := ⟨by kernel_rfl, _, Try.underlying115, rfl⟩
theorem t120 : Ty Try.prog 120 6 64 true (.agg #[.int .i64 0, .int .i64 0, .int .i64 0, .int .i64 0, .int .i64 0, .slice none 0 0]) := ⟨by kernel_rfl, _, Try.underlying120, rfl⟩
theorem t133 : Ty Try.prog 133 2 16 true (.agg #[.int .i64 0, .int .i64 0]) := ⟨by kernel_rfl, _, Try.underlying133, rfl⟩
theorem fa25_0 : Fld Try.prog 25 0 0 := ⟨_, _, 1, Try.underlying25, rfl, rfl, by decide, by kernel_rfl⟩
theorem fa25_1 : Fld Try.prog 25 1 1 := ⟨_, _, 1, Try.underlying25, rfl, rfl, by decide, by kernel_rfl⟩
theorem fa25_2 : Fld Try.prog 25 2 2 := ⟨_, _, 1, Try.underlying25, rfl, rfl, by decide, by kernel_rfl⟩
theorem fa25_3 : Fld Try.prog 25 3 3 := ⟨_, _, 1, Try.underlying25, rfl, rfl, by decide, by kernel_rfl⟩
theorem fa31_0 : Fld Try.prog 31 0 0 := ⟨_, _, 1, Try.underlying31, rfl, rfl, by decide, by kernel_rfl⟩
theorem fa31_1 : Fld Try.prog 31 1 1 := ⟨_, _, 1, Try.underlying31, rfl, rfl, by decide, by kernel_rfl⟩
theorem fa31_2 : Fld Try.prog 31 2 2 := ⟨_, _, 1, Try.underlying31, rfl, rfl, by decide, by kernel_rfl⟩
theorem fa31_3 : Fld Try.prog 31 3 3 := ⟨_, _, 1, Try.underlying31, rfl, rfl, by decide, by kernel_rfl⟩
theorem fa86_0 : Fld Try.prog 86 0 0 := ⟨_, _, 1, Try.underlying86, rfl, rfl, by decide, by kernel_rfl⟩
theorem fa86_1 : Fld Try.prog 86 1 1 := ⟨_, _, 1, Try.underlying86, rfl, rfl, by decide, by kernel_rfl⟩
theorem fa86_2 : Fld Try.prog 86 2 2 := ⟨_, _, 1, Try.underlying86, rfl, rfl, by decide, by kernel_rfl⟩
theorem fa86_3 : Fld Try.prog 86 3 3 := ⟨_, _, 1, Try.underlying86, rfl, rfl, by decide, by kernel_rfl⟩
theorem fa86_4 : Fld Try.prog 86 4 4 := ⟨_, _, 1, Try.underlying86, rfl, rfl, by decide, by kernel_rfl⟩
theorem fa93_0 : Fld Try.prog 93 0 0 := ⟨_, _, 4, Try.underlying93, rfl, rfl, by decide, by kernel_rfl⟩
theorem fa93_1 : Fld Try.prog 93 1 4 := ⟨_, _, 1, Try.underlying93, rfl, rfl, by decide, by kernel_rfl⟩
theorem fa93_2 : Fld Try.prog 93 2 5 := ⟨_, _, 1, Try.underlying93, rfl, rfl, by decide, by kernel_rfl⟩
theorem fa93_3 : Fld Try.prog 93 3 6 := ⟨_, _, 1, Try.underlying93, rfl, rfl, by decide, by kernel_rfl⟩
theorem fa93_4 : Fld Try.prog 93 4 7 := ⟨_, _, 1, Try.underlying93, rfl, rfl, by decide, by kernel_rfl⟩
theorem fa93_5 : Fld Try.prog 93 5 8 := ⟨_, _, 1, Try.underlying93, rfl, rfl, by decide, by kernel_rfl⟩
theorem fa103_0 : Fld Try.prog 103 0 0 := ⟨_, _, 1, Try.underlying103, rfl, rfl, by decide, by kernel_rfl⟩
theorem fa103_1 : Fld Try.prog 103 1 1 := ⟨_, _, 1, Try.underlying103, rfl, rfl, by decide, by kernel_rfl⟩
theorem fa103_2 : Fld Try.prog 103 2 2 := ⟨_, _, 1, Try.underlying103, rfl, rfl, by decide, by kernel_rfl⟩
theorem fa103_3 : Fld Try.prog 103 3 3 := ⟨_, _, 1, Try.underlying103, rfl, rfl, by decide, by kernel_rfl⟩
theorem fa106_0 : Fld Try.prog 106 0 0 := ⟨_, _, 4, Try.underlying106, rfl, rfl, by decide, by kernel_rfl⟩
theorem fa106_1 : Fld Try.prog 106 1 4 := ⟨_, _, 1, Try.underlying106, rfl, rfl, by decide, by kernel_rfl⟩
theorem fa106_2 : Fld Try.prog 106 2 5 := ⟨_, _, 1, Try.underlying106, rfl, rfl, by decide, by kernel_rfl⟩
theorem fa120_0 : Fld Try.prog 120 0 0 := ⟨_, _, 1, Try.underlying120, rfl, rfl, by decide, by kernel_rfl⟩
theorem fa120_1 : Fld Try.prog 120 1 1 := ⟨_, _, 1, Try.underlying120, rfl, rfl, by decide, by kernel_rfl⟩
theorem fa120_2 : Fld Try.prog 120 2 2 := ⟨_, _, 1, Try.underlying120, rfl, rfl, by decide, by kernel_rfl⟩
theorem fa120_3 : Fld Try.prog 120 3 3 := ⟨_, _, 1, Try.underlying120, rfl, rfl, by decide, by kernel_rfl⟩
theorem fa120_4 : Fld Try.prog 120 4 4 := ⟨_, _, 1, Try.underlying120, rfl, rfl, by decide, by kernel_rfl⟩
theorem fa120_5 : Fld Try.prog 120 5 5 := ⟨_, _, 1, Try.underlying120, rfl, rfl, by decide, by kernel_rfl⟩
theorem ent13 : Entered Try.prog 13 := entered Try.func13 (by decide) rfl
theorem ent14 : Entered Try.prog 14 := entered Try.func14 (by decide) rfl
theorem ent15 : Entered Try.prog 15 := entered Try.func15 (by decide) rfl
theorem ent16 : Entered Try.prog 16 := entered Try.func16 (by decide) rfl
theorem ent17 : Entered Try.prog 17 := entered Try.func17 (by decide) rfl
theorem ent18 : Entered Try.prog 18 := entered Try.func18 (by decide) rfl
theorem ent19 : Entered Try.prog 19 := entered Try.func19 (by decide) rfl
theorem ent20 : Entered Try.prog 20 := entered Try.func20 (by decide) rfl
theorem ent24 : Entered Try.prog 24 := entered Try.func24 (by decide) rfl
theorem ent34 : Entered Try.prog 34 := entered Try.func34 (by decide) rfl
theorem ent35 : Entered Try.prog 35 := entered Try.func35 (by decide) rfl
theorem ent36 : Entered Try.prog 36 := entered Try.func36 (by decide) rfl
theorem ent37 : Entered Try.prog 37 := entered Try.func37 (by decide) rfl
theorem ent39 : Entered Try.prog 39 := entered Try.func39 (by decide) rfl
theorem ent40 : Entered Try.prog 40 := entered Try.func40 (by decide) rfl
theorem ent41 : Entered Try.prog 41 := entered Try.func41 (by decide) rfl
theorem ent42 : Entered Try.prog 42 := entered Try.func42 (by decide) rfl
theorem ent43 : Entered Try.prog 43 := entered Try.func43 (by decide) rfl
theorem ent44 : Entered Try.prog 44 := entered Try.func44 (by decide) rfl
theorem ent45 : Entered Try.prog 45 := entered Try.func45 (by decide) rfl
theorem ent48 : Entered Try.prog 48 := entered Try.func48 (by decide) rfl
theorem ent51 : Entered Try.prog 51 := entered Try.func51 (by decide) rfl
theorem ent52 : Entered Try.prog 52 := entered Try.func52 (by decide) rfl
theorem ent53 : Entered Try.prog 53 := entered Try.func53 (by decide) rfl
theorem ent54 : Entered Try.prog 54 := entered Try.func54 (by decide) rfl
theorem ent55 : Entered Try.prog 55 := entered Try.func55 (by decide) rfl
theorem ent56 : Entered Try.prog 56 := entered Try.func56 (by decide) rfl
theorem ent57 : Entered Try.prog 57 := entered Try.func57 (by decide) rfl
theorem ent58 : Entered Try.prog 58 := entered Try.func58 (by decide) rfl
theorem ent59 : Entered Try.prog 59 := entered Try.func59 (by decide) rfl
theorem ent60 : Entered Try.prog 60 := entered Try.func60 (by decide) rfl
theorem ent61 : Entered Try.prog 61 := entered Try.func61 (by decide) rfl
theorem ent62 : Entered Try.prog 62 := entered Try.func62 (by decide) rfl
theorem ent63 : Entered Try.prog 63 := entered Try.func63 (by decide) rfl
theorem ent64 : Entered Try.prog 64 := entered Try.func64 (by decide) rfl
theorem ent65 : Entered Try.prog 65 := entered Try.func65 (by decide) rfl
theorem ent66 : Entered Try.prog 66 := entered Try.func66 (by decide) rfl
theorem ent67 : Entered Try.prog 67 := entered Try.func67 (by decide) rfl
theorem ent68 : Entered Try.prog 68 := entered Try.func68 (by decide) rfl
theorem ent69 : Entered Try.prog 69 := entered Try.func69 (by decide) rfl
theorem ent70 : Entered Try.prog 70 := entered Try.func70 (by decide) rfl
theorem ent71 : Entered Try.prog 71 := entered Try.func71 (by decide) rfl
theorem ent72 : Entered Try.prog 72 := entered Try.func72 (by decide) rfl
theorem ent73 : Entered Try.prog 73 := entered Try.func73 (by decide) rfl
theorem ent74 : Entered Try.prog 74 := entered Try.func74 (by decide) rfl
theorem ent75 : Entered Try.prog 75 := entered Try.func75 (by decide) rfl
theorem ent76 : Entered Try.prog 76 := entered Try.func76 (by decide) rfl
theorem ent77 : Entered Try.prog 77 := entered Try.func77 (by decide) rfl
theorem ent78 : Entered Try.prog 78 := entered Try.func78 (by decide) rfl
theorem ent79 : Entered Try.prog 79 := entered Try.func79 (by decide) rfl
theorem ent80 : Entered Try.prog 80 := entered Try.func80 (by decide) rfl
end Go.Proofs.Ytlplogplicgfiaa
