import Derived.Test.YtfdmndkoiheebaaZ16Ops3
import Derived.Test.YtfdmndkoiheebaaProg
namespace Go.Proofs.Ytfdmndkoiheebaa
open Go Go.RowKit
theorem Upd.setCells {w : World} {b o : Nat} (vs : List Value) : Upd (one b) w (w.setCells b o vs) := by
  induction vs generalizing w o with
  | nil => exact Upd.refl w
  | cons v vs ih =>
    have h1 : Upd (one b) w (w.setCell ⟨b, o, none⟩ v) := ⟨rfl, rfl, rfl, by simp [World.setCell], fun c _ hc => heap_setCell_other w ⟨b, o, none⟩ c v hc⟩
    exact h1.trans ih fun _ _ h => h
theorem Blk.setCells {w : World} {b o : Nat} {ty : TypeId} {cur : Array Value} (h : Blk w b ty cur) (vs : List Value) (hs : o + vs.length ≤ cur.size) : Blk (w.setCells b o vs) b ty (put cur o vs) := by
  induction vs generalizing w o cur with
  | nil => have e1 : put cur o [] = cur := by apply Array.ext'; simp [put]
           rw [e1]; exact h
  | cons v vs ih =>
    simp only [List.length_cons] at hs
    have h1 : Blk (w.setCell ⟨b, o, none⟩ v) b ty (cur.setIfInBounds o v) := heap_setCell_same w b o cur ty v h
    have h2 := ih (o := o + 1) h1 (by simp; omega)
    have e1 : put (cur.setIfInBounds o v) (o + 1) vs = put cur o (v :: vs) := by
      apply Array.ext'
      have := list_seg_step cur.toList o v vs (by simp; omega)
      simp only [put, Array.toList_setIfInBounds, List.length_cons]
      simpa [Nat.add_assoc, Nat.add_comm, Nat.add_left_comm] using this
    rw [e1] at h2
    exact h2
theorem setCells_other {w : World} {b o c : Nat} (vs : List Value) (h : c ≠ b) : (w.setCells b o vs).heap[c]? = w.heap[c]? := by
  induction vs generalizing w o with
  | nil => rfl
  | cons v vs ih => exact ih.trans (heap_setCell_other w ⟨b, o, none⟩ c v h)
theorem run_append {P : Program} {w : World} {t tx ty el el' : TypeId} {k by_ : Nat} {g : Bool} {z : Value} (hu : P.underlying t = some (.slice el)) (hux : P.underlying tx = some (.slice el')) (hk : Ty P el k by_ g z) (hk0 : 0 < k) (hz : z.cells.size = k)
    {v u : Value} {n m : Nat} {cs news : List Value} (hs : Sl w el k v n cs) (hr : Row w k u m news) (h1 : ∀ x ∈ news, x.oneCell' = true) (hb : (n + m) * by_ ≤ 140737488355328) (hnm : n + m ≤ 9223372036854775807) :
    ∃ v' w', (Builtin.append_ #[t, tx] ty #[v, u]).run P w = .ok v' w' ∧ Upd (fun b => vblk v = some b) w w' ∧ Sl w' el k v' (n + m) (cs ++ news) ∧
      ((vblk v' = vblk v ∧ n + m ≤ vcap v ∧ vcap v' = vcap v) ∨ (∃ b, vblk v' = some b ∧ w.heap.size ≤ b ∧ Ext w w')) := by
  have src := hr.src hk0 hux h1 (P := P)
  have hlr := hr.len
  obtain ⟨i, hi, hz0, hz1, hz2⟩ := info_parts hk.info
  obtain ⟨a, c, rfl, hc, hl, hj⟩ := hs
  subst hz1
  by_cases hroom : n + m ≤ c
  · rcases hj with ⟨rfl, rfl⟩ | ⟨b, off, cur, rfl, hB, ho, hj⟩
    · obtain rfl : n = 0 := by omega
      obtain rfl : m = 0 := by omega
      have hn : news = [] := List.eq_nil_of_length_eq_zero (by rw [hlr]; simp)
      have hcs : cs = [] := List.eq_nil_of_length_eq_zero (by rw [hl]; simp)
      subst hn; subst hcs
      refine ⟨.slice none 0 0, w, ?_, Upd.refl _, Sl.nil _ _ _, .inl ⟨rfl, by omega, rfl⟩⟩
      have hlen0 := src.len w
      have hcells := src.cells
      simp [Builtin.append_, underlying, hu, hux, Go.sizeOf, typeInfo, hi, hlen0, hcells]
    · have hcm : n * i.size + m * i.size ≤ c * i.size := by rw [← Nat.add_mul]; exact Nat.mul_le_mul_right _ hroom
      have hfit : off + n * i.size + news.length ≤ cur.size := by rw [hlr]; omega
      have hrun := run_append_room_src (P := P) w t tx ty el i hu hi b off n c u m news src hroom
        (fun j hj => by rw [hB.cell]; simp; omega) (fun j _ => hB.frozen _)
      refine ⟨_, _, hrun, (Upd.setCells news).mono (fun x _ hx => by simp [vblk]; exact hx.symm), ?_, .inl ⟨rfl, hroom, rfl⟩⟩
      refine ⟨_, _, rfl, hroom, by rw [List.length_append, hl, hlr, Nat.add_mul], .inr ⟨b, off, _, rfl, hB.setCells news hfit, by rw [put_size hfit]; exact ho, fun j hjl => ?_⟩⟩
      rw [List.length_append] at hjl
      rw [put_get hfit]
      by_cases hjn : j < cs.length
      · rw [if_pos (by omega), List.getElem?_append_left hjn, hj j hjn]
      · rw [if_neg (by omega), if_pos (by omega), List.getElem?_append_right (by omega)]
        congr 1; omega
  · have hfirst : (Builtin.firstCells i.size n (.slice a n c)).run P w.drew = .ok cs.toArray w.drew := by
      rcases hj with ⟨rfl, rfl⟩ | ⟨b, off, cur, rfl, hB, ho, hj⟩
      · obtain rfl : n = 0 := by omega
        have hcs : cs = [] := List.eq_nil_of_length_eq_zero (by rw [hl]; simp)
        subst hcs
        exact run_firstCells_none w.drew _ _ _ _
      · refine run_firstCells_some w.drew _ _ _ _ _ cs hl (fun j x hx => ?_)
        have hjl : j < cs.length := (List.getElem?_eq_some_iff.1 hx).1
        rw [add_none]
        show w.cell? _ = _
        rw [hB.cell, hj j hjl, hx]
    have hrun := run_append_grow_src (P := P) w t tx ty el i z hu hi hz0 a n c cs hfirst u m news src (by omega) (by omega) (growslice_fits (by omega) (by rw [hz2]; exact hb))
    refine ⟨_, _, hrun, ?_, ?_, .inr ⟨_, rfl, Nat.le_refl _, ?_⟩⟩
    · exact (Upd.drew w).trans (Upd.push w.drew _) fun _ _ h => h
    · have hlen : (cs ++ news).length = (n + m) * i.size := by rw [List.length_append, hl, hlr, Nat.add_mul]
      have hge := grownCap_ge w (n + m) c el
      refine ⟨_, _, rfl, hge, hlen, .inr ⟨_, 0, _, rfl, Blk.push w.drew _ _, ?_, fun j hjl => ?_⟩⟩
      · simp only [Array.size_append, List.size_toArray, size_zeroCells, hz, hlen, Nat.zero_add, ← Nat.add_mul]
        exact Nat.mul_le_mul_right _ (by omega)
      · rw [Nat.zero_add, Array.getElem?_append_left (by simpa using hjl)]; simp
    · exact (Upd.drew w).trans (Upd.push w.drew _) fun _ _ h => h
namespace R
variable {P : Program} {ops : Array Oper} {S : Bool → Nat → Prop} {dr : Bool} {B : List Nat} {F : Env → World → Prop} {rest : List Oper} {e : Env} {w : World}
variable {d : Tmp} {od : Option Tmp} {ty : TypeId} {pos : String} {aft : Array Edge}
theorem append {x y : Operand} {t tx el el' : TypeId} {k by_ : Nat} {g : Bool} {z : Value} (hu : P.underlying t = some (.slice el)) (hux : P.underlying tx = some (.slice el')) (hk : Ty P el k by_ g z) (hk0 : 0 < k) (hz : z.cells.size = k)
    {v u : Value} {n m : Nat} {cs news : List Value} (hs : Sl w el k v n cs) (hr : Row w k u m news) (h1 : ∀ x ∈ news, x.oneCell' = true) (hx : ev e x = v) (hy : ev e y = u) (hb : (n + m) * by_ ≤ 140737488355328) (hnm : n + m ≤ 9223372036854775807)
    (hag : dr = true → ∀ b, S false b → b < w.heap.size ∧ vblk v ≠ some b)
    (h : ∀ v' w', Upd (fun b => vblk v = some b) w w' → Sl w' el k v' (n + m) (cs ++ news) → ((vblk v' = vblk v ∧ n + m ≤ vcap v ∧ vcap v' = vcap v) ∨ (∃ b, vblk v' = some b ∧ w.heap.size ≤ b ∧ Ext w w')) →
      wpR P ops S dr (kind B) F rest (upd e d v') w') : wpR P ops S dr (kind B) F (⟨some d, .call { callee := .builtin .append, args := #[x, y], argTypes := #[t, tx] }, ty, pos, aft, none⟩ :: rest) e w := by
  obtain ⟨v', w', hrun, hU, hS, hd⟩ := run_append (ty := ty) hu hux hk hk0 hz hs hr h1 hb hnm
  refine run3 (w' := w') (v := v') rfl ?_ (fun hdr => hU.agree fun b hb => hag hdr b hb) (h v' w' hU hS hd)
  simp [execOp, resolve, invoke, builtin, hx, hy, hrun]
theorem make {t el : TypeId} {by_ : Nat} {g : Bool} {z : Value} {x y : Operand} {n c : Nat} {kl kc : IntKind} (hu : P.underlying t = some (.slice el)) (hk : Ty P el 1 by_ g z) (hz : z.cells = #[z]) (hx : ev e x = .int kl n) (hy : ev e y = .int kc c) (hnc : n ≤ c) (hb : by_ * c ≤ 281474976710656) (hc : c ≤ 9223372036854775807)
    (hag : dr = true → ∀ c b, S c b → b < w.heap.size)
    (h : ∀ b w', w.heap.size ≤ b → Ext w w' → Blk w' b el (Array.replicate c z) → Sl w' el 1 (.slice (some ⟨b, 0, none⟩) n c) n (List.replicate n z) → wpR P ops S dr (kind B) F rest (upd e d (.slice (some ⟨b, 0, none⟩) n c)) w') :
    wpR P ops S dr (kind B) F (⟨some d, .makeSlice t x y, ty, pos, aft, none⟩ :: rest) e w := by
  obtain ⟨i, hi, hz0, hz1, hz2⟩ := info_parts hk.info
  have hb2 : ((by_ * c : Nat) : Int) ≤ 281474976710656 := by omega
  rw [Int.natCast_mul] at hb2
  have hrun := run_make (P := P) w t el i z hu hi hz0 kl kc n c (by omega) (by omega) (by rw [hz2]; exact hb2) (by omega)
  have e1 : madeCells z.cells (((c : Int)).toNat * i.size) = Array.replicate c z := by
    apply Array.ext'
    rw [hz, hz1, toList_madeCells_one]; simp
  rw [e1] at hrun
  simp only [Int.toNat_natCast] at hrun
  have hE : Ext w (w.alloc (.cells (Array.replicate c z) el)) := Upd.push _ _
  have hB : Blk (w.alloc (.cells (Array.replicate c z) el)) w.heap.size el (Array.replicate c z) := Blk.push _ _ _
  refine run2 (w' := w.alloc (.cells (Array.replicate c z) el)) (v := .slice (some ⟨w.heap.size, 0, none⟩) n c) rfl ?_ (fun hd x => hE.agree fun b hb => ⟨hag hd x b hb, id⟩)
    (h _ _ (Nat.le_refl _) hE hB ⟨_, _, rfl, hnc, by simp, .inr ⟨_, 0, _, rfl, hB, by simp, fun j hj => by
      simp at hj
      have : j < c := by omega
      simp [this, hj]⟩⟩)
  simp [execOp, hx, hy, hrun]
end R
end Go.Proofs.Ytfdmndkoiheebaa

namespace Go.Proofs.Ytfdmndkoiheebaa
open Go Go.RowKit
theorem mixed : Try.prog.follows .mixedOrders = true := by kernel_rfl
def Has (e : Env) : List (Nat × Value) → Prop
  | [] => True
  | (t, v) :: l => e t = v ∧ Has e l
def mk (e : Env) : List (Nat × Value) → Env
  | [] => e
  | (t, v) :: l => upd (mk e l) t v
theorem upd_self (e : Env) (t : Nat) : upd e t (e t) = e := by
  obtain ⟨f, ms⟩ := e
  simp only [upd, Env.mk.injEq, and_true]
  funext s; split <;> simp_all
theorem Has.mk : ∀ {l : List (Nat × Value)} {e : Env}, Has e l → e = mk e l
  | [], _, _ => rfl
  | (t, v) :: l, e, ⟨h1, h2⟩ => by
    have := Has.mk h2
    show e = upd (Ytfdmndkoiheebaa.mk e l) t v
    rw [← this, ← h1, upd_self]
theorem Has.ex {l : List (Nat × Value)} {e : Env} (h : Has e l) : ∃ e0, e = Ytfdmndkoiheebaa.mk e0 l := ⟨e, h.mk⟩
theorem ret1 {P : Program} {fn : Func} {R : Ending → World → Prop} {e : Env} {w : World} {t : Tmp} (v : Value) (hr : fn.results = #[.tmp t]) (hv : e t = v) (h : R (.returned v) w) : bodyE P fn R .ret e w :=
  ⟨v, fun tmps ht => by rw [results_tmp hr, ht, hv], h⟩
theorem ret2 {P : Program} {fn : Func} {R : Ending → World → Prop} {e : Env} {w : World} {t u : Tmp} (v1 v2 : Value) (hr : fn.results = #[.tmp t, .tmp u]) (h1 : e t = v1) (h2 : e u = v2) (h : R (.returned (.tuple #[v1, v2])) w) : bodyE P fn R .ret e w :=
  ⟨_, fun tmps ht => by rw [results_tmp2 hr, ht, ht, h1, h2], h⟩
theorem ret3 {P : Program} {fn : Func} {R : Ending → World → Prop} {e : Env} {w : World} {t u s : Tmp} (v1 v2 v3 : Value) (hr : fn.results = #[.tmp t, .tmp u, .tmp s]) (h1 : e t = v1) (h2 : e u = v2) (h3 : e s = v3) (h : R (.returned (.tuple #[v1, v2, v3])) w) : bodyE P fn R .ret e w :=
  ⟨_, fun tmps ht => by rw [results_tmp3 hr, ht, ht, ht, h1, h2, h3], h⟩
theorem end0 {P : Program} {fn : Func} {R : Ending → World → Prop} {e : Env} {w : World} (hr : fn.results = #[]) (h : R (.returned (.tuple #[])) w) : bodyE P fn R .normal e w :=
  ⟨_, fun tmps _ => by rw [results_none hr], h⟩
theorem run_loadA {P : Program} {w : World} {t : TypeId} {k by_ b : Nat} {z : Value} {tb : TypeId} {cs : Array Value} (hk : Ty P t k by_ true z) (hb : Blk w b tb cs) (hi : cs.size = k) : (loadVar t ⟨b, 0, none⟩).run P w = .ok (.agg cs) w := by
  have hl : (loadCells ⟨b, 0, none⟩ cs.toList.length).run P w = .ok cs.toList.toArray w := run_loadCells_list (P := P) (w := w) ⟨b, 0, none⟩ cs.toList (fun j v hj => by
    rw [add_none, hb.cell]; simpa using hj)
  simp only [Array.length_toList, Array.toArray_toList, hi] at hl
  simp [loadVar, hk.isAgg, hk.sizeOf, hl]
theorem retA {P : Program} {fn : Func} {R : Ending → World → Prop} {e : Env} {w : World} {t : Tmp} {T : TypeId} {k by_ b : Nat} {z : Value} {cs : Array Value} {tb : TypeId} (hk : Ty P T k by_ true z) (hb : Blk w b tb cs) (hi : cs.size = k) (hr : fn.results = #[.cell t T]) (hv : e t = .pointer (some ⟨b, 0, none⟩)) (h : R (.returned (.agg cs)) w) : bodyE P fn R .ret e w :=
  ⟨_, fun tmps ht => by
    simp only [Array.getD_eq_getD_getElem?] at ht
    simp [results, hr, ht, hv, asAddr, run_loadA hk hb hi], h⟩
theorem retA1 {P : Program} {fn : Func} {R : Ending → World → Prop} {e : Env} {w : World} {t u : Tmp} {T : TypeId} {k by_ b : Nat} {z : Value} {cs : Array Value} (v2 : Value) {tb : TypeId} (hk : Ty P T k by_ true z) (hb : Blk w b tb cs) (hi : cs.size = k) (hr : fn.results = #[.cell t T, .tmp u]) (hv : e t = .pointer (some ⟨b, 0, none⟩)) (h2 : e u = v2)
    (h : R (.returned (.tuple #[.agg cs, v2])) w) : bodyE P fn R .ret e w :=
  ⟨_, fun tmps ht => by
    simp only [Array.getD_eq_getD_getElem?] at ht
    simp [results, hr, ht, hv, h2, asAddr, run_loadA hk hb hi], h⟩
theorem ints_one {xs : List Int} : ∀ u ∈ ints xs, u.oneCell' = true := by
  intro u hu
  obtain ⟨_, _, rfl⟩ := List.mem_map.1 hu
  rfl
theorem t3 : Ty Try.prog 3 1 8 false (.int .i64 0) := ⟨by kernel_rfl, _, Try.underlying3, rfl⟩
theorem t4 : Ty Try.prog 4 1 1 false (.bool false) := ⟨by kernel_rfl, _, Try.underlying4, rfl⟩
theorem t22 : Ty Try.prog 22 1 24 false (.slice none 0 0) := ⟨by kernel_rfl, _, Try.underlying22, rfl⟩
theorem t24 : Ty Try.prog 24 2 32 true (.agg #[.slice none 0 0, .int .i64 0]) := ⟨by kernel_rfl, _, Try.underlying24, rfl⟩
theorem t35 : Ty Try.prog 35 1 24 false (.slice none 0 0) := ⟨by kernel_rfl, _, Try.underlying35, rfl⟩
theorem t53 : Ty Try.prog 53 2 16 true (.agg #[.int .i64 0, .int .i64 0]) := ⟨by kernel_rfl, _, Try.underlying53, rfl⟩
theorem t54 : Ty Try.prog 54 2 32 true (.agg #[.slice none 0 0, .int .i64 0]) := ⟨by kernel_rfl, _, Try.underlying54, rfl⟩
theorem t62 : Ty Try.prog 62 1 24 false (.slice none 0 0) := ⟨by kernel_rfl, _, Try.underlying62, rfl⟩
theorem t68 : Ty Try.prog 68 3 24 true (.agg #[.int .i64 0, .int .i64 0, .int .i64 0]) := ⟨by kernel_rfl, _, Try.underlying68, rfl⟩
theorem fa24_0 : Fld Try.prog 24 0 0 := ⟨_, _, 1, Try.underlying24, rfl, rfl, by decide, by kernel_rfl⟩
theorem fa24_1 : Fld Try.prog 24 1 1 := ⟨_, _, 1, Try.underlying24, rfl, rfl, by decide, by kernel_rfl⟩
theorem fa54_0 : Fld Try.prog 54 0 0 := ⟨_, _, 1, Try.underlying54, rfl, rfl, by decide, by kernel_rfl⟩
theorem fa54_1 : Fld Try.prog 54 1 1 := ⟨_, _, 1, Try.underlying54, rfl, rfl, by decide, by kernel_rfl⟩
theorem fa30_0 : Fld Try.prog 30 0 0 := ⟨_, _, 1, Try.underlying30, rfl, rfl, by decide, by kernel_rfl⟩
theorem fa30_1 : Fld Try.prog 30 1 1 := ⟨_, _, 1, Try.underlying30, rfl, rfl, by decide, by kernel_rfl⟩
theorem fa53_0 : Fld Try.prog 53 0 0 := ⟨_, _, 1, Try.underlying53, rfl, rfl, by decide, by kernel_rfl⟩
theorem fa53_1 : Fld Try.prog 53 1 1 := ⟨_, _, 1, Try.underlying53, rfl, rfl, by decide, by kernel_rfl⟩
theorem fa68_0 : Fld Try.prog 68 0 0 := ⟨_, _, 1, Try.underlying68, rfl, rfl, by decide, by kernel_rfl⟩
theorem fa68_1 : Fld Try.prog 68 1 1 := ⟨_, _, 1, Try.underlying68, rfl, rfl, by decide, by kernel_rfl⟩
theorem fa68_2 : Fld Try.prog 68 2 2 := ⟨_, _, 1, Try.underlying68, rfl, rfl, by decide, by kernel_rfl⟩
theorem ent23 : Entered Try.prog 23 := entered Try.func23 (by decide) rfl
theorem ent27 : Entered Try.prog 27 := entered Try.func27 (by decide) rfl
theorem ent30 : Entered Try.prog 30 := entered Try.func30 (by decide) rfl
theorem ent33 : Entered Try.prog 33 := entered Try.func33 (by decide) rfl
theorem ent38 : Entered Try.prog 38 := entered Try.func38 (by decide) rfl
theorem ent40 : Entered Try.prog 40 := entered Try.func40 (by decide) rfl
theorem ent43 : Entered Try.prog 43 := entered Try.func43 (by decide) rfl
theorem ent44 : Entered Try.prog 44 := entered Try.func44 (by decide) rfl
theorem ent45 : Entered Try.prog 45 := entered Try.func45 (by decide) rfl
theorem ent46 : Entered Try.prog 46 := entered Try.func46 (by decide) rfl
theorem ent47 : Entered Try.prog 47 := entered Try.func47 (by decide) rfl
theorem ent48 : Entered Try.prog 48 := entered Try.func48 (by decide) rfl
theorem ent49 : Entered Try.prog 49 := entered Try.func49 (by decide) rfl
theorem ent50 : Entered Try.prog 50 := entered Try.func50 (by decide) rfl
theorem ent51 : Entered Try.prog 51 := entered Try.func51 (by decide) rfl
theorem ent52 : Entered Try.prog 52 := entered Try.func52 (by decide) rfl
theorem ent53 : Entered Try.prog 53 := entered Try.func53 (by decide) rfl
theorem ent55 : Entered Try.prog 55 := entered Try.func55 (by decide) rfl
theorem ent56 : Entered Try.prog 56 := entered Try.func56 (by decide) rfl
theorem ent58 : Entered Try.prog 58 := entered Try.func58 (by decide) rfl
theorem ent59 : Entered Try.prog 59 := entered Try.func59 (by decide) rfl
theorem ent61 : Entered Try.prog 61 := entered Try.func61 (by decide) rfl
theorem ent62 : Entered Try.prog 62 := entered Try.func62 (by decide) rfl
theorem ent65 : Entered Try.prog 65 := entered Try.func65 (by decide) rfl
theorem ent66 : Entered Try.prog 66 := entered Try.func66 (by decide) rfl
theorem ent68 : Entered Try.prog 68 := entered Try.func68 (by decide) rfl
theorem ent69 : Entered Try.prog 69 := entered Try.func69 (by decide) rfl
theorem ent71 : Entered Try.prog 71 := entered Try.func71 (by decide) rfl
theorem ent72 : Entered Try.prog 72 := entered Try.func72 (by decide) rfl
theorem ent73 : Entered Try.prog 73 := entered Try.func73 (by decide) rfl
theorem ent74 : Entered Try.prog 74 := entered Try.func74 (by decide) rfl
theorem ent75 : Entered Try.prog 75 := entered Try.func75 (by decide) rfl
theorem ent76 : Entered Try.prog 76 := entered Try.func76 (by decide) rfl
theorem ent77 : Entered Try.prog 77 := entered Try.func77 (by decide) rfl
theorem ent78 : Entered Try.prog 78 := entered Try.func78 (by decide) rfl
theorem ent79 : Entered Try.prog 79 := entered Try.func79 (by decide) rfl
theorem ent80 : Entered Try.prog 80 := entered Try.func80 (by decide) rfl
theorem ent81 : Entered Try.prog 81 := entered Try.func81 (by decide) rfl
theorem ent82 : Entered Try.prog 82 := entered Try.func82 (by decide) rfl
theorem ent83 : Entered Try.prog 83 := entered Try.func83 (by decide) rfl
theorem ent84 : Entered Try.prog 84 := entered Try.func84 (by decide) rfl
theorem ent85 : Entered Try.prog 85 := entered Try.func85 (by decide) rfl
theorem ent86 : Entered Try.prog 86 := entered Try.func86 (by decide) rfl
theorem ent87 : Entered Try.prog 87 := entered Try.func87 (by decide) rfl
theorem ent88 : Entered Try.prog 88 := entered Try.func88 (by decide) rfl
theorem ent89 : Entered Try.prog 89 := entered Try.func89 (by decide) rfl
theorem ent90 : Entered Try.prog 90 := entered Try.func90 (by decide) rfl
theorem ent91 : Entered Try.prog 91 := entered Try.func91 (by decide) rfl
theorem ent92 : Entered Try.prog 92 := entered Try.func92 (by decide) rfl
theorem ent93 : Entered Try.prog 93 := entered Try.func93 (by decide) rfl
theorem ent94 : Entered Try.prog 94 := entered Try.func94 (by decide) rfl
theorem ent95 : Entered Try.prog 95 := entered Try.func95 (by decide) rfl
theorem ent96 : Entered Try.prog 96 := entered Try.func96 (by decide) rfl
theorem ent97 : Entered Try.prog 97 := entered Try.func97 (by decide) rfl
theorem ent98 : Entered Try.prog 98 := entered Try.func98 (by decide) rfl
theorem ent99 : Entered Try.prog 99 := entered Try.func99 (by decide) rfl
theorem ent100 : Entered Try.prog 100 := entered Try.func100 (by decide) rfl
theorem ent101 : Entered Try.prog 101 := entered Try.func101 (by decide) rfl
end Go.Proofs.Ytfdmndkoiheebaa

namespace Go.Proofs.Ytfdmndkoiheebaa
open Go Go.RowKit
theorem sizeOf_run {P : Program} {t : TypeId} {k : Nat} (h : (P.info? t).map (·.size) = some k) (w : World) : (sizeOf t).run P w = .ok k w := by
  cases hq : P.info? t with
  | none => simp [hq] at h
  | some i => have : i.size = k := by simpa [hq] using h
              simp [Go.sizeOf, typeInfo, hq, this]
theorem cells_agg (cs : Array Value) : (Value.agg cs).cells = cs := rfl
theorem s3 : (Try.prog.info? 3).map (·.size) = some 1 := by kernel_rfl
theorem s22 : (Try.prog.info? 22).map (·.size) = some 1 := by kernel_rfl
theorem t117 : Ty Try.prog 117 3 24 true (.agg #[.int .i64 0, .int .i64 0, .int .i64 0]) := ⟨by kernel_rfl, _, Try.underlying117, rfl⟩
theorem build24 {s h : Value} (hs : s.oneCell' = true) (hh : h.oneCell' = true) (w : World) : (Instr.build 24 #[(0, s), (1, h)]).run Try.prog w = .ok (.agg #[s, h]) w := by
  simp [Instr.build, t24.zero, underlying, Try.underlying24, sizeOf_run s22, sizeOf_run s3, Instr.fill, cells_agg, cells_one hs, cells_one hh]
theorem build54_0 (w : World) : (Instr.build 54 #[]).run Try.prog w = .ok (.agg #[.slice none 0 0, .int .i64 0]) w := by
  simp [Instr.build, t54.zero, underlying, Try.underlying54, sizeOf_run s22, sizeOf_run s3, Instr.fill, Value.cells]
theorem build54_1 {h : Value} (hh : h.oneCell' = true) (w : World) : (Instr.build 54 #[(1, h)]).run Try.prog w = .ok (.agg #[.slice none 0 0, h]) w := by
  simp [Instr.build, t54.zero, underlying, Try.underlying54, sizeOf_run s22, sizeOf_run s3, Instr.fill, cells_agg, cells_one hh]
theorem build53 {a b : Int} (w : World) : (Instr.build 53 #[(0, .int .i64 a), (1, .int .i64 b)]).run Try.prog w = .ok (.agg #[.int .i64 a, .int .i64 b]) w := by
  simp [Instr.build, t53.zero, underlying, Try.underlying53, sizeOf_run s3, Instr.fill, Value.cells]
theorem build68 {a b c : Int} (w : World) : (Instr.build 68 #[(0, .int .i64 a), (1, .int .i64 b), (2, .int .i64 c)]).run Try.prog w = .ok (.agg #[.int .i64 a, .int .i64 b, .int .i64 c]) w := by
  simp [Instr.build, t68.zero, underlying, Try.underlying68, sizeOf_run s3, Instr.fill, Value.cells]
theorem build117 {a b c : Int} (w : World) : (Instr.build 117 #[(0, .int .i64 a), (1, .int .i64 b), (2, .int .i64 c)]).run Try.prog w = .ok (.agg #[.int .i64 a, .int .i64 b, .int .i64 c]) w := by
  simp [Instr.build, t117.zero, underlying, Try.underlying117, sizeOf_run s3, Instr.fill, Value.cells]
end Go.Proofs.Ytfdmndkoiheebaa
