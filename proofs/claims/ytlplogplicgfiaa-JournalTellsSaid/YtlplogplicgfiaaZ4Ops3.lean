import Derived.Test.YtlplogplicgfiaaZ4Ops
namespace Go.Proofs.Ytlplogplicgfiaa
open Go Go.RowKit
def Ret (Φ : Value → World → Prop) (e : Ending) (w' : World) : Prop := ∃ v, e = .returned v ∧ Φ v w'
theorem Row.one {w : World} {k : Nat} {v : Value} {n : Nat} {cs : List Value} (h : Row w k v n cs) : v.oneCell' = true := by
  obtain ⟨a, cap, rfl, _⟩ := h; rfl
theorem Sl.one {w : World} {ty : TypeId} {k : Nat} {v : Value} {n : Nat} {cs : List Value} (h : Sl w ty k v n cs) : v.oneCell' = true := h.row.one
theorem cells_one {v : Value} (h : v.oneCell' = true) : v.cells = #[v] := by cases v <;> first | rfl | (simp [Value.oneCell'] at h)
theorem Row.src {P : Program} {w : World} {k : Nat} {v : Value} {n : Nat} {cs : List Value} (h : Row w k v n cs) (hk : 0 < k) {tx e' : TypeId} (hu : P.underlying tx = some (.slice e')) (h1 : ∀ u ∈ cs, u.oneCell' = true) : Src P k tx v n cs w := by
  obtain ⟨a, cap, rfl, hc, hl, hj⟩ := h
  cases a with
  | none =>
    have h0 : cs = [] := by
      cases cs with
      | nil => rfl
      | cons c cs => obtain ⟨p, hp, _⟩ := hj 0 (by simp); cases hp
    subst h0; obtain rfl : n = 0 := by
      rcases Nat.eq_zero_or_pos n with h | h
      · exact h
      · have := Nat.mul_pos h hk; simp at hl; omega
    exact Src.ofNil w hu cap
  | some p =>
    refine Src.ofSlice w hu p n cap cs hl (fun j u hu => ?_) h1; obtain ⟨p', hp', hc⟩ := hj j (List.getElem?_eq_some_iff.1 hu).1; obtain rfl := Option.some.inj hp'; rw [hc, hu]
theorem Upd.setRow {w : World} {g : Nat} (cs : Array Value) : Upd (one g) w (w.setRow g cs) :=
  ⟨rfl, rfl, rfl, by simp, fun b _ hn => setRow_other w g b _ hn⟩
theorem Blk.setRow {w : World} {g : Nat} {ty : TypeId} {old : Array Value} (h : Blk w g ty old) (cs : Array Value) : Blk (w.setRow g cs) g ty cs := setRow_heap w g old cs _ _ h
def put (cur : Array Value) (o : Nat) (vs : List Value) : Array Value := (cur.toList.take o ++ vs ++ cur.toList.drop (o + vs.length)).toArray
theorem put_size {cur : Array Value} {o : Nat} {vs : List Value} (h : o + vs.length ≤ cur.size) : (put cur o vs).size = cur.size := by
  simp [put]; omega
theorem put_get {cur : Array Value} {o : Nat} {vs : List Value} (h : o + vs.length ≤ cur.size) (j : Nat) : (put cur o vs)[j]? = if j < o then cur[j]? else if j < o + vs.length then vs[j - o]? else cur[j]? := by
  simp only [put, List.getElem?_toArray, List.append_assoc]; have h1 : (List.take o cur.toList).length = o := by simp; omega
  by_cases h2 : j < o
  · rw [if_pos h2, List.getElem?_append_left (by omega), List.getElem?_take, if_pos h2]; simp
  · rw [if_neg h2, List.getElem?_append_right (by omega), h1]; by_cases h3 : j < o + vs.length
    · rw [if_pos h3, List.getElem?_append_left (by omega)]
    · rw [if_neg h3, List.getElem?_append_right (by omega), List.getElem?_drop]; simp; congr 1; omega
theorem put_one {cur : Array Value} {i : Nat} {u : Value} (h : i < cur.size) : put cur i [u] = cur.setIfInBounds i u := by
  apply Array.ext'; simp only [put, List.length_cons, List.length_nil, Array.toList_setIfInBounds]; rw [List.set_eq_take_append_cons_drop, if_pos (by simpa using h)]; simp
theorem run_storeVar {P : Program} {t : TypeId} {k by_ : Nat} {g : Bool} {z : Value} (hk : Ty P t k by_ g z) {w : World} {b off : Nat} {tb : TypeId} {cur : Array Value} (hb : Blk w b tb cur) {v : Value} {vs : List Value} (hv : v.cells.toList = vs) (hl : vs.length = k) (h1 : ∀ u ∈ vs, u.oneCell' = true)
    (ho : off + k ≤ cur.size) : (storeVar t ⟨b, off, none⟩ v).run P w = .ok () (w.setRow b (put cur off vs)) := by
  have hs : v.cells.size = k := by rw [← hl, ← hv]; simp
  have := run_storeCells_at P b off tb vs 0 cur w hb (by omega) h1; simp only [Nat.add_zero] at this; simp [storeVar, hk.sizeOf, hs, hv, this, put]
def Entered (P : Program) (f : FuncId) : Prop := ∀ args w, (callFunc f args).run P w = .ok (.enter f args) w
theorem entered {P : Program} {f : FuncId} {fn : Func} (hf : P.funcs[f]? = some fn) (hn : (fn.name == "runtime.NumGoroutine") = false) (hb : fn.body.isNone = false) : Entered P f := fun args w => by
  simp only [callFunc, Sem.run_bind, run_program, Result.andThen_ok, hf, hn, hb, Bool.false_eq_true, if_false, Sem.run_pure]
namespace R
variable {P : Program} {ops : Array Oper} {S : Bool → Nat → Prop} {dr : Bool} {B : List Nat} {F : Env → World → Prop} {rest : List Oper} {e : Env} {w : World}
variable {d : Tmp} {od : Option Tmp} {ty : TypeId} {pos : String} {aft : Array Edge}
theorem box {x : Operand} {t : TypeId} {v : Value} (hx : ev e x = v) (hag : dr = true → ∀ c b, S c b → b < w.heap.size)
    (h : ∀ b w', w.heap.size ≤ b → Ext w w' → Blk w' b t v.cells → wpR P ops S dr (kind B) F rest (upd e d (.pointer (some ⟨b, 0, none⟩))) w') : wpR P ops S dr (kind B) F (⟨some d, .box t x, ty, pos, aft, none⟩ :: rest) e w := by
  have hu : Ext w (w.alloc (.cells v.cells t)) := Upd.push _ _; refine run2 (w' := w.alloc (.cells v.cells t)) (v := .pointer (some ⟨w.heap.size, 0, none⟩)) rfl ?_ (fun hd c => hu.agree fun b hb => ⟨hag hd c b hb, id⟩) (h _ _ (Nat.le_refl _) hu (Blk.push _ _ _)); simp [execOp, hx, Instr.box, newVar, newRow]
theorem alloc {t : TypeId} {k by_ : Nat} {g : Bool} {z : Value} (hk : Ty P t k by_ g z) (hag : dr = true → ∀ c b, S c b → b < w.heap.size)
    (h : ∀ b w', w.heap.size ≤ b → Ext w w' → Blk w' b t z.cells → wpR P ops S dr (kind B) F rest (upd e d (.pointer (some ⟨b, 0, none⟩))) w') : wpR P ops S dr (kind B) F (⟨some d, .alloc t, ty, pos, aft, none⟩ :: rest) e w := by
  have hu : Ext w (w.alloc (.cells z.cells t)) := Upd.push _ _; refine run2 (w' := w.alloc (.cells z.cells t)) (v := .pointer (some ⟨w.heap.size, 0, none⟩)) rfl ?_ (fun hd c => hu.agree fun b hb => ⟨hag hd c b hb, id⟩) (h _ _ (Nat.le_refl _) hu (Blk.push _ _ _)); simp [execOp, Instr.alloc, hk.zero, newVar, newRow]
theorem storeG {x y : Operand} {t : TypeId} {k by_ b off : Nat} {g : Bool} {z : Value} {tb : TypeId} {cur : Array Value} {v : Value} {vs : List Value} (hk : Ty P t k by_ g z) (hb : Blk w b tb cur) (hx : ev e x = .pointer (some ⟨b, off, none⟩)) (hy : ev e y = v) (hv : v.cells.toList = vs)
    (hl : vs.length = k) (h1 : ∀ u ∈ vs, u.oneCell' = true) (ho : off + k ≤ cur.size) (hag : dr = true → ¬ S false b)
    (h : ∀ w', Upd (one b) w w' → w'.heap.size = w.heap.size → Blk w' b tb (put cur off vs) → wpR P ops S dr (kind B) F rest (updo e od undef) w') : wpR P ops S dr (kind B) F (⟨od, .store t x y, ty, pos, aft, none⟩ :: rest) e w := by
  refine runs (w' := w.setRow b (put cur off vs)) rfl ?_ (fun hd c hc => setRow_other w b c _ (fun e => hag hd (e ▸ hc))) (h _ (Upd.setRow _) (by simp) (hb.setRow _)); simp [execOp, hx, hy, Instr.storeAt, Instr.sureAddr, run_storeVar hk hb hv hl h1 ho]
theorem store {x y : Operand} {t : TypeId} {by_ b i : Nat} {z : Value} {tb : TypeId} {cur : Array Value} {u : Value} (hk : Ty P t 1 by_ false z) (hb : Blk w b tb cur) (hx : ev e x = .pointer (some ⟨b, i, none⟩)) (hy : ev e y = u) (h1 : u.oneCell' = true) (hi : i < cur.size) (hag : dr = true → ¬ S false b)
    (h : ∀ w', Upd (one b) w w' → w'.heap.size = w.heap.size → Blk w' b tb (cur.setIfInBounds i u) → wpR P ops S dr (kind B) F rest (updo e od undef) w') : wpR P ops S dr (kind B) F (⟨od, .store t x y, ty, pos, aft, none⟩ :: rest) e w :=
  storeG (vs := [u]) hk hb hx hy (by rw [cells_one h1]) rfl (by simpa using h1) (by omega) hag (fun w' hu hs hB => h w' hu hs (by rw [← put_one hi]; exact hB))
theorem storeA {x y : Operand} {t : TypeId} {k by_ b : Nat} {z : Value} {tb : TypeId} {cur us : Array Value} (hk : Ty P t k by_ true z) (hb : Blk w b tb cur) (hx : ev e x = .pointer (some ⟨b, 0, none⟩)) (hy : ev e y = .agg us) (hc : cur.size = k) (hu : us.size = k) (h1 : ∀ u ∈ us.toList, u.oneCell' = true) (hag : dr = true → ¬ S false b)
    (h : ∀ w', Upd (one b) w w' → w'.heap.size = w.heap.size → Blk w' b tb us → wpR P ops S dr (kind B) F rest (updo e od undef) w') : wpR P ops S dr (kind B) F (⟨od, .store t x y, ty, pos, aft, none⟩ :: rest) e w :=
  storeG (vs := us.toList) hk hb hx hy rfl (by simpa using hu) h1 (by omega) hag (fun w' hu' hs hB => h w' hu' hs (by
    have e1 : put cur 0 us.toList = us := by apply Array.ext'; simp [put, hu, hc]
    rw [e1] at hB; exact hB))
theorem call {f : FuncId} {args : Array Operand} {ats : Array TypeId} {vs : Array Value} {Φ : Value → World → Prop} (hent : Entered P f) (hargs : args.map (ev e) = vs) (hc : Calls P f vs w (Ret Φ))
    (h : ∀ v w', Φ v w' → (dr = true → AgreeOn (S false) w w') ∧ wpR P ops S dr (kind B) F rest (updo e od v) w') :
    wpR P ops S dr (kind B) F (⟨od, .call { callee := .value (.func f), args := args, argTypes := ats }, ty, pos, aft, none⟩ :: rest) e w := by
  refine loud Φ (by simp [kind]) ?_ (fun v w' hΦ => ⟨fun hd => ⟨(h v w' hΦ).1 hd, fun h2 => by simp [kind] at h2⟩, (h v w' hΦ).2⟩); have e1 : execOp (ev e) ⟨od, .call { callee := .value (.func f), args := args, argTypes := ats }, ty, pos, aft, none⟩ = callFunc f (#[] ++ args.map (ev e) ++ #[]) := rfl; rw [e1, hent, hargs]; simp only [Array.empty_append, Array.append_empty]; exact hc
theorem callE {f : FuncId} {args : Array Operand} {ats : Array TypeId} {vs : Array Value} {Φ : Value → World → Prop} (hent : Entered P f) (hargs : args.map (ev e) = vs) (hc : Calls P f vs w (Ret fun v w' => Ext w w' ∧ Φ v w'))
    (hag : dr = true → ∀ b, S false b → b < w.heap.size) (h : ∀ v w', Ext w w' → Φ v w' → wpR P ops S dr (kind B) F rest (updo e od v) w') :
    wpR P ops S dr (kind B) F (⟨od, .call { callee := .value (.func f), args := args, argTypes := ats }, ty, pos, aft, none⟩ :: rest) e w :=
  call hent hargs hc fun v w' ⟨hE, hΦ⟩ => ⟨fun hd => hE.agree fun b hb => ⟨hag hd b hb, id⟩, h v w' hE hΦ⟩
end R
end Go.Proofs.Ytlplogplicgfiaa

namespace Go.Proofs.Ytlplogplicgfiaa
open Go Go.RowKit
def Fld (P : Program) (T : TypeId) (i off : Nat) : Prop :=
  ∃ fs f k, P.underlying T = some (.struct fs) ∧ fs[i]? = some f ∧ f.offset = off ∧ k ≠ 0 ∧ (P.info? f.type).map (·.size) = some k
theorem Fld.run {P : Program} {T : TypeId} {i off : Nat} (h : Fld P T i off) (a : Addr) (w : World) : (Instr.fieldAt T (.pointer (some a)) i).run P w = .ok (.pointer (some (a.add off))) w := by
  obtain ⟨fs, f, k, hu, hf, rfl, hk, hi⟩ := h
  cases hq : P.info? f.type with
  | none => simp [hq] at hi
  | some inf =>
    have hs : inf.size = k := by simpa [hq] using hi
    simp [Instr.fieldAt, underlying, hu, hf, Instr.sureAddr, fieldPlace, Go.sizeOf, typeInfo, hq, hs, hk]
def cut (k : Nat) (v : Value) (l h : Nat) : Value :=
  match v with
  | .slice a _ c => .slice (if c = l then a else a.map (·.add (l * k))) (h - l) (c - l)
  | _ => undef
def vcap : Value → Nat
  | .slice _ _ c => c
  | _ => 0
theorem Row.cap {w : World} {k : Nat} {v : Value} {n : Nat} {cs : List Value} (h : Row w k v n cs) : n ≤ vcap v := by
  obtain ⟨a, c, rfl, hc, _⟩ := h; exact hc
theorem Sl.cap {w : World} {ty : TypeId} {k : Nat} {v : Value} {n : Nat} {cs : List Value} (h : Sl w ty k v n cs) : n ≤ vcap v := h.row.cap
theorem Row.cut {w : World} {k : Nat} {v : Value} {n : Nat} {cs : List Value} (h : Row w k v n cs) {l r : Nat} (hl : l ≤ r) (hr : r ≤ n) : Row w k (cut k v l r) (r - l) ((cs.drop (l * k)).take ((r - l) * k)) := by
  obtain ⟨a, c, rfl, hc, hlen, hj⟩ := h; have hmul : l * k + (r - l) * k = r * k := by rw [← Nat.add_mul]; congr 1; omega
  have hmul2 : r * k ≤ n * k := Nat.mul_le_mul_right _ hr; refine ⟨_, _, rfl, by omega, by simp; omega, fun j hjl => ?_⟩; simp only [List.length_take, List.length_drop] at hjl; obtain ⟨p, rfl, hp⟩ := hj (l * k + j) (by omega); have hjr : j < (r - l) * k := by omega
  have hne : ¬ c = l := fun e => by
    have : r - l = 0 := by omega
    rw [this] at hjr; simp at hjr
  refine ⟨p.add (l * k), by simp [hne], ?_⟩; rw [Deep.add_add, hp, List.getElem?_take, if_pos hjr, List.getElem?_drop]
theorem Sl.cut {w : World} {ty : TypeId} {k : Nat} {v : Value} {n : Nat} {cs : List Value} (h : Sl w ty k v n cs) {l r : Nat} (hl : l ≤ r) (hr : r ≤ n) : Sl w ty k (cut k v l r) (r - l) ((cs.drop (l * k)).take ((r - l) * k)) := by
  obtain ⟨a, c, rfl, hc, hlen, hj⟩ := h; have hmul : l * k + (r - l) * k = r * k := by rw [← Nat.add_mul]; congr 1; omega
  have hmul2 : r * k ≤ n * k := Nat.mul_le_mul_right _ hr; refine ⟨_, _, rfl, by omega, by simp; omega, ?_⟩; rcases hj with ⟨rfl, rfl⟩ | ⟨b, off, cur, rfl, hb, ho, hj⟩
  · exact .inl ⟨by simp, by omega⟩
  · have hcl : l * k + (c - l) * k = c * k := by rw [← Nat.add_mul]; congr 1; omega
    by_cases hne : c = l
    · refine .inr ⟨b, off, cur, by simp [hne], hb, by simp [hne]; omega, fun j hj' => ?_⟩; have : r - l = 0 := by omega
      simp [this] at hj'
    · refine .inr ⟨b, off + l * k, cur, by simp [hne, add_none], hb, by omega, fun j hjl => ?_⟩; simp only [List.length_take, List.length_drop] at hjl; rw [Nat.add_assoc, hj (l * k + j) (by omega), List.getElem?_take, if_pos (by omega), List.getElem?_drop]
def cellsOf (vs : List Value) : List Value := vs.flatMap fun v => v.cells.toList
theorem fill_at (k : Nat) : ∀ (vs : List Value) (s : Nat) (cells : Array Value), (∀ v ∈ vs, v.cells.size = k) → s * k + vs.length * k ≤ cells.size →
    Instr.fill (fun i => some (i * k, k)) cells ((vs.zipIdx s).map fun p => (p.2, p.1)) = some (put cells (s * k) (cellsOf vs)) := by
  intro vs
  induction vs with
  | nil => intro s cells _ _; simp [Instr.fill, put, cellsOf]
  | cons v vs ih =>
    intro s cells hv hs; have hvk : v.cells.size = k := hv v List.mem_cons_self; have hlen : (v :: vs).length * k = k + vs.length * k := by rw [List.length_cons, Nat.add_mul, Nat.one_mul, Nat.add_comm]
    rw [hlen] at hs; have hfold : ∀ (xs : List Value) (t : Nat) (acc : Array Value), s * k + t + xs.length ≤ acc.size →
        (xs.zipIdx t).foldl (fun cs p => cs.setIfInBounds (s * k + p.2) p.1) acc = put acc (s * k + t) xs := by
      intro xs
      induction xs with
      | nil => intro t acc _; simp [put]
      | cons x xs ihx =>
        intro t acc ha; simp only [List.length_cons] at ha; rw [List.zipIdx_cons, List.foldl_cons, ihx (t + 1) _ (by simp; omega)]; apply Array.ext'; simp only [put, Array.toList_setIfInBounds, List.length_cons]; have := list_seg_step acc.toList (s * k + t) x xs (by simp; omega); simpa [Nat.add_assoc, Nat.add_comm, Nat.add_left_comm] using this
    have hf := hfold v.cells.toList 0 cells (by simp; omega); simp only [Nat.add_zero] at hf; simp only [List.zipIdx_cons, List.map_cons, Instr.fill, hvk]; rw [if_neg (by simp; omega)]; have e1 : v.cells.zipIdx.foldl (fun cs x => match x with | (c, j) => cs.setIfInBounds (s * k + j) c) cells = put cells (s * k) v.cells.toList := by
      rw [← hf]; rw [← Array.foldl_toList]; simp [Array.toList_zipIdx]
    rw [e1, ih (s + 1) _ (fun u hu => hv u (List.mem_cons_of_mem _ hu)) (by rw [put_size (by simp; omega), Nat.add_mul]; omega)]
    congr 1
    apply Array.ext_getElem?; intro j; have e2 : (cellsOf vs).length = vs.length * k := by
      unfold cellsOf; clear ih hs hfold hf e1 hlen
      induction vs with
      | nil => simp
      | cons u us ihu =>
        rw [List.flatMap_cons, List.length_append, ihu (fun x hx => hv x (by cases hx with | head => exact List.mem_cons_self | tail _ h => exact List.mem_cons_of_mem _ (List.mem_cons_of_mem _ h))), List.length_cons, Nat.add_mul, Nat.one_mul]; have := hv u (List.mem_cons_of_mem _ List.mem_cons_self); simp [this, Nat.add_comm]
    have e3 : (cellsOf (v :: vs)) = v.cells.toList ++ cellsOf vs := by simp [cellsOf]
    have hs1 : s * k + v.cells.toList.length ≤ cells.size := by simp; omega
    rw [put_get (by rw [put_size hs1, e2, Nat.add_mul]; omega), put_get hs1, e3, put_get (by simp [e2]; omega), Nat.add_mul, Nat.one_mul]; simp only [List.length_append, e2, Array.length_toList, hvk]; by_cases h1 : j < s * k
    · have : j < s * k + k := by omega
      simp [h1, this]
    · by_cases h2 : j < s * k + k
      · have h3 : j < s * k + (k + vs.length * k) := by omega
        simp only [h1, h2, h3, if_true, if_false]; rw [List.getElem?_append_left (by simp; omega)]
      · by_cases h3 : j < s * k + k + vs.length * k
        · have h4 : j < s * k + (k + vs.length * k) := by omega
          simp only [h1, h2, h3, h4, if_true, if_false]; rw [List.getElem?_append_right (by simp; omega)]
          congr 1
          simp; omega
        · have h4 : ¬ j < s * k + (k + vs.length * k) := by omega
          simp only [h1, h2, h3, h4, if_false]
namespace R
variable {P : Program} {ops : Array Oper} {S : Bool → Nat → Prop} {dr : Bool} {B : List Nat} {F : Env → World → Prop} {rest : List Oper} {e : Env} {w : World}
variable {d : Tmp} {od : Option Tmp} {ty : TypeId} {pos : String} {aft : Array Edge}
theorem fld {x : Operand} {T : TypeId} {i off b o : Nat} (hf : Fld P T i off) (hx : ev e x = .pointer (some ⟨b, o, none⟩))
    (h : wpR P ops S dr (kind B) F rest (upd e d (.pointer (some ⟨b, o + off, none⟩))) w) : wpR P ops S dr (kind B) F (⟨some d, .fieldAddr T x i, ty, pos, aft, none⟩ :: rest) e w :=
  quiet _ rfl (fun w' _ => by simp [execOp, hx, hf.run, add_none]) h
theorem fldE {x : Operand} {T : TypeId} {i off j : Nat} {v : Value} {w0 : World} {k n : Nat} {cs : List Value} (hf : Fld P T i off) (hr : Row w0 k v n cs) (hj : j < cs.length) (hx : ev e x = elemPtr v j)
    (h : wpR P ops S dr (kind B) F rest (upd e d (elemPtr v (j + off))) w) : wpR P ops S dr (kind B) F (⟨some d, .fieldAddr T x i, ty, pos, aft, none⟩ :: rest) e w := by
  obtain ⟨a, c, rfl, _, _, hjj⟩ := hr; obtain ⟨p, rfl, _⟩ := hjj j hj; exact quiet _ rfl (fun w' _ => by simp [execOp, hx, elemPtr, hf.run, Deep.add_add]) h
theorem build {T : TypeId} {parts : Array (Nat × Operand)} {ps : List (Nat × Value)} {v : Value} (hb : ∀ w, (Instr.build T ps.toArray).run P w = .ok v w) (hp : parts.toList.map (fun p => (p.1, ev e p.2)) = ps)
    (h : wpR P ops S dr (kind B) F rest (upd e d v) w) : wpR P ops S dr (kind B) F (⟨some d, .build T parts, ty, pos, aft, none⟩ :: rest) e w :=
  quiet v rfl (fun w' _ => by
    have e1 : (parts.map fun x => (x.1, ev e x.2)) = ps.toArray := by apply Array.ext'; rw [← hp]; simp
    have e2 : (execOp (ev e) ⟨some d, .build T parts, ty, pos, aft, none⟩) = (do pure (.value (← Instr.build T (parts.map fun x => (x.1, ev e x.2))))) := rfl; rw [e2, e1]
    simp only [Sem.run_bind, hb, Result.andThen_ok, Sem.run_pure]) h
theorem conv {x : Operand} {src dst : TypeId} {k k' : IntKind} {n : Int} {ds : TypeDesc} (hs : P.underlying src = some ds) (hd : P.underlying dst = some (.int k')) (hx : ev e x = .int k n)
    (h : wpR P ops S dr (kind B) F rest (upd e d (.int k' (k'.wrap n))) w) (hne : (src == dst) = false := by rfl) : wpR P ops S dr (kind B) F (⟨some d, .convert src dst x, ty, pos, aft, none⟩ :: rest) e w :=
  quiet (.int k' (k'.wrap n)) (by simp only [kind, hne]; rfl) (fun w' _ => by cases ds <;> simp [execOp, convert, underlying, hs, hd, hx, Conv.intToInt]) h
theorem slc {x : Operand} {t el : TypeId} {k by_ : Nat} {g : Bool} {z : Value} {v : Value} {lo hi : Option Operand} {l r : Nat} {n : Nat} {a : Option Addr} {c : Nat} (hu : P.underlying t = some (.slice el)) (hk : Ty P el k by_ g z) (hx : ev e x = v) (hv : v = .slice a n c)
    (hlo : (match lo with | none => l = 0 | some y => ∃ ik, ev e y = .int ik l)) (hhi : (match hi with | none => r = n | some y => ∃ ik, ev e y = .int ik r)) (hlr : l ≤ r) (hrc : r ≤ c)
    (h : wpR P ops S dr (kind B) F rest (upd e d (cut k v l r)) w) : wpR P ops S dr (kind B) F (⟨some d, .slice t x lo hi none, ty, pos, aft, none⟩ :: rest) e w := by
  subst hv; refine quiet _ rfl (fun w' _ => ?_) h
  cases lo with
  | none =>
    subst hlo
    cases hi with
    | none => subst hhi; simp [execOp, hx, Instr.sliceAt, Instr.slice, underlying, hu, Instr.sliceBounds, hk.sizeOf, cut]
    | some y => obtain ⟨ik, hy⟩ := hhi; simp [execOp, hx, hy, Instr.sliceAt, Instr.slice, underlying, hu, Instr.sliceBounds, Instr.sliceBound, asIntOf, hrc, hk.sizeOf, cut]
  | some y' =>
    obtain ⟨ik', hy'⟩ := hlo
    cases hi with
    | none => subst hhi; simp [execOp, hx, hy', Instr.sliceAt, Instr.slice, underlying, hu, Instr.sliceBounds, Instr.sliceBound, asIntOf, hlr, hk.sizeOf, cut]
    | some y => obtain ⟨ik, hy⟩ := hhi; simp [execOp, hx, hy, hy', Instr.sliceAt, Instr.slice, underlying, hu, Instr.sliceBounds, Instr.sliceBound, asIntOf, hrc, hlr, hk.sizeOf, cut]
theorem buildSlice {t el : TypeId} {k by_ len : Nat} {g : Bool} {z : Value} {parts : Array (Nat × Operand)} (vs : List Value) (hu : P.underlying t = some (.slice el)) (hk : Ty P el k by_ g z) (hlen : len = vs.length)
    (hp' : parts.toList.map (fun p => (p.1, ev e p.2)) = (vs.zipIdx 0).map fun p => (p.2, p.1)) (hv : ∀ v ∈ vs, v.cells.size = k) (hs : vs.length * k ≤ 16777216) (hag : dr = true → ∀ c b, S c b → b < w.heap.size)
    (h : ∀ b w', w.heap.size ≤ b → Ext w w' → Blk w' b el (cellsOf vs).toArray → Sl w' el k (.slice (some ⟨b, 0, none⟩) vs.length vs.length) vs.length (cellsOf vs) →
      wpR P ops S dr (kind B) F rest (upd e d (.slice (some ⟨b, 0, none⟩) vs.length vs.length)) w') : wpR P ops S dr (kind B) F (⟨some d, .buildSlice t len parts, ty, pos, aft, none⟩ :: rest) e w := by
  subst hlen; have hp : (parts.map (fun (i, x) => (i, ev e x))).toList = (vs.zipIdx 0).map fun p => (p.2, p.1) := by rw [← hp']; simp
  have hcl : (cellsOf vs).length = vs.length * k := by
    unfold cellsOf; clear hp hp' hs h
    induction vs with
    | nil => simp
    | cons u us ihu =>
      rw [List.flatMap_cons, List.length_append, ihu (fun x hx => hv x (List.mem_cons_of_mem _ hx)), List.length_cons, Nat.add_mul, Nat.one_mul]; have := hv u List.mem_cons_self; simp [this, Nat.add_comm]
  have hE : Ext w (w.alloc (.cells (cellsOf vs).toArray el)) := Upd.push _ _; have hB : Blk (w.alloc (.cells (cellsOf vs).toArray el)) w.heap.size el (cellsOf vs).toArray := Blk.push _ _ _
  have hS : Sl (w.alloc (.cells (cellsOf vs).toArray el)) el k (.slice (some ⟨w.heap.size, 0, none⟩) vs.length vs.length) vs.length (cellsOf vs) :=
    ⟨_, _, rfl, Nat.le_refl _, hcl, .inr ⟨_, 0, _, rfl, hB, by simp [hcl], fun j _ => by simp⟩⟩
  refine run2 (w' := w.alloc (.cells (cellsOf vs).toArray el)) (v := .slice (some ⟨w.heap.size, 0, none⟩) vs.length vs.length) rfl ?_ (fun hd c => hE.agree fun b hb => ⟨hag hd c b hb, id⟩) (h _ _ (Nat.le_refl _) hE hB hS); have hfill : ∀ cells : Array Value, cells.size = vs.length * k → Instr.fill (fun i => some (i * k, k)) cells (parts.map (fun (i, x) => (i, ev e x))).toList = some (cellsOf vs).toArray := by
    intro cells hc; rw [hp, fill_at k vs 0 cells hv (by omega)]
    congr 1
    apply Array.ext'; simp [put, hcl, hc]
  have hs' : ¬ (16777216 < vs.length * k) := by omega
  simp only [execOp, Instr.buildSlice, underlying, Sem.run_bind, run_program, Result.andThen_ok, hu, Sem.run_pure, hk.sizeOf]; rw [if_neg (by simpa using hs')]; by_cases h0 : vs.length * k = 0
  · rw [if_pos h0]; simp only [Sem.run_bind, Sem.run_pure, Result.andThen_ok]; rw [hfill _ (by simp)]; simp [newRow]
  · rw [if_neg h0]; simp only [Sem.run_bind, Sem.run_pure, Result.andThen_ok, hk.zero]; rw [hfill _ (by simp)]; simp [newRow]
end R
end Go.Proofs.Ytlplogplicgfiaa
