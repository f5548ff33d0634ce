/- The rules of the walk: operations that make or write memory, and calls. -/
import Derived.Test.YtfdmndkoiheebaaOps
namespace Go.Proofs.Ytfdmndkoiheebaa
open Go Go.RowKit

/-- A contract's end: it returns v in w'. -/
def Ret (Φ : Value → World → Prop) (e : Ending) (w' : World) : Prop := ∃ v, e = .returned v ∧ Φ v w'

theorem Row.one {w : World} {k : Nat} {v : Value} {n : Nat} {cs : List Value} (h : Row w k v n cs) : v.oneCell' = true := by
  obtain ⟨a, cap, rfl, _⟩ := h; rfl
theorem Sl.one {w : World} {ty : TypeId} {k : Nat} {v : Value} {n : Nat} {cs : List Value} (h : Sl w ty k v n cs) : v.oneCell' = true := h.row.one
theorem cells_one {v : Value} (h : v.oneCell' = true) : v.cells = #[v] := by cases v <;> first | rfl | (simp [Value.oneCell'] at h)

theorem Row.src {P : Program} {w : World} {k : Nat} {v : Value} {n : Nat} {cs : List Value} (h : Row w k v n cs) (hk : 0 < k) {tx e' : TypeId} (hu : P.underlying tx = some (.slice e')) (h1 : ∀ u ∈ cs, u.oneCell' = true) : Src P k tx v n cs w := by
  obtain ⟨a, cap, rfl, hc, hl, hj⟩ := h
  cases a with
  | none =>
    have h0 : cs = [] := by
      cases cs with
      | nil => rfl
      | cons c cs => obtain ⟨p, hp, _⟩ := hj 0 (by simp); cases hp
    subst h0
    obtain rfl : n = 0 := by
      rcases Nat.eq_zero_or_pos n with h | h
      · exact h
      · have := Nat.mul_pos h hk; simp at hl; omega
    exact Src.ofNil w hu cap
  | some p =>
    refine Src.ofSlice w hu p n cap cs hl (fun j u hu => ?_) h1
    obtain ⟨p', hp', hc⟩ := hj j (List.getElem?_eq_some_iff.1 hu).1
    obtain rfl := Option.some.inj hp'
    rw [hc, hu]

theorem Upd.setRow {w : World} {g : Nat} (cs : Array Value) : Upd (one g) w (w.setRow g cs) :=
  ⟨rfl, rfl, rfl, by simp, fun b _ hn => setRow_other w g b _ hn⟩
theorem Blk.setRow {w : World} {g : Nat} {ty : TypeId} {old : Array Value} (h : Blk w g ty old) (cs : Array Value) : Blk (w.setRow g cs) g ty cs := setRow_heap w g old cs _ _ h

/-- Cells of a block replaced from o on. -/
def put (cur : Array Value) (o : Nat) (vs : List Value) : Array Value := (cur.toList.take o ++ vs ++ cur.toList.drop (o + vs.length)).toArray
theorem put_size {cur : Array Value} {o : Nat} {vs : List Value} (h : o + vs.length ≤ cur.size) : (put cur o vs).size = cur.size := by
  simp [put]; omega
theorem put_get {cur : Array Value} {o : Nat} {vs : List Value} (h : o + vs.length ≤ cur.size) (j : Nat) : (put cur o vs)[j]? = if j < o then cur[j]? else if j < o + vs.length then vs[j - o]? else cur[j]? := by
  simp only [put, List.getElem?_toArray, List.append_assoc]
  have h1 : (List.take o cur.toList).length = o := by simp; omega
  by_cases h2 : j < o
  · rw [if_pos h2, List.getElem?_append_left (by omega), List.getElem?_take, if_pos h2]; simp
  · rw [if_neg h2, List.getElem?_append_right (by omega), h1]
    by_cases h3 : j < o + vs.length
    · rw [if_pos h3, List.getElem?_append_left (by omega)]
    · rw [if_neg h3, List.getElem?_append_right (by omega), List.getElem?_drop]
      simp; congr 1; omega
theorem put_one {cur : Array Value} {i : Nat} {u : Value} (h : i < cur.size) : put cur i [u] = cur.setIfInBounds i u := by
  apply Array.ext'
  simp only [put, List.length_cons, List.length_nil, Array.toList_setIfInBounds]
  rw [List.set_eq_take_append_cons_drop, if_pos (by simpa using h)]
  simp

theorem run_storeVar {P : Program} {t : TypeId} {k by_ : Nat} {g : Bool} {z : Value} (hk : Ty P t k by_ g z) {w : World} {b off : Nat} {tb : TypeId} {cur : Array Value} (hb : Blk w b tb cur) {v : Value} {vs : List Value} (hv : v.cells.toList = vs) (hl : vs.length = k) (h1 : ∀ u ∈ vs, u.oneCell' = true)
    (ho : off + k ≤ cur.size) : (storeVar t ⟨b, off, none⟩ v).run P w = .ok () (w.setRow b (put cur off vs)) := by
  have hs : v.cells.size = k := by rw [← hl, ← hv]; simp
  have := run_storeCells_at P b off tb vs 0 cur w hb (by omega) h1
  simp only [Nat.add_zero] at this
  simp [storeVar, hk.sizeOf, hs, hv, this, put]

/-- The function f has a body of its own. -/
def Entered (P : Program) (f : FuncId) : Prop := ∀ args w, (callFunc f args).run P w = .ok (.enter f args) w
theorem entered {P : Program} {f : FuncId} {fn : Func} (hf : P.funcs[f]? = some fn) (hn : (fn.name == "runtime.NumGoroutine") = false) (hb : fn.body.isNone = false) : Entered P f := fun args w => by
  simp only [callFunc, Sem.run_bind, run_program, Result.andThen_ok, hf, hn, hb, Bool.false_eq_true, if_false, Sem.run_pure]

namespace R
variable {P : Program} {ops : Array Oper} {S : Bool → Nat → Prop} {dr : Bool} {B : List Nat} {F : Env → World → Prop} {rest : List Oper} {e : Env} {w : World}
variable {d : Tmp} {od : Option Tmp} {ty : TypeId} {pos : String} {aft : Array Edge}

theorem box {x : Operand} {t : TypeId} {v : Value} (hx : ev e x = v) (hag : dr = true → ∀ c b, S c b → b < w.heap.size)
    (h : ∀ b w', w.heap.size ≤ b → Ext w w' → Blk w' b t v.cells → wpR P ops S dr (kind B) F rest (upd e d (.pointer (some ⟨b, 0, none⟩))) w') : wpR P ops S dr (kind B) F (⟨some d, .box t x, ty, pos, aft, none⟩ :: rest) e w := by
  have hu : Ext w (w.alloc (.cells v.cells t)) := Upd.push _ _
  refine run2 (w' := w.alloc (.cells v.cells t)) (v := .pointer (some ⟨w.heap.size, 0, none⟩)) rfl ?_ (fun hd c => hu.agree fun b hb => ⟨hag hd c b hb, id⟩) (h _ _ (Nat.le_refl _) hu (Blk.push _ _ _))
  simp [execOp, hx, Instr.box, newVar, newRow]

theorem alloc {t : TypeId} {k by_ : Nat} {g : Bool} {z : Value} (hk : Ty P t k by_ g z) (hag : dr = true → ∀ c b, S c b → b < w.heap.size)
    (h : ∀ b w', w.heap.size ≤ b → Ext w w' → Blk w' b t z.cells → wpR P ops S dr (kind B) F rest (upd e d (.pointer (some ⟨b, 0, none⟩))) w') : wpR P ops S dr (kind B) F (⟨some d, .alloc t, ty, pos, aft, none⟩ :: rest) e w := by
  have hu : Ext w (w.alloc (.cells z.cells t)) := Upd.push _ _
  refine run2 (w' := w.alloc (.cells z.cells t)) (v := .pointer (some ⟨w.heap.size, 0, none⟩)) rfl ?_ (fun hd c => hu.agree fun b hb => ⟨hag hd c b hb, id⟩) (h _ _ (Nat.le_refl _) hu (Blk.push _ _ _))
  simp [execOp, Instr.alloc, hk.zero, newVar, newRow]

theorem storeG {x y : Operand} {t : TypeId} {k by_ b off : Nat} {g : Bool} {z : Value} {tb : TypeId} {cur : Array Value} {v : Value} {vs : List Value} (hk : Ty P t k by_ g z) (hb : Blk w b tb cur) (hx : ev e x = .pointer (some ⟨b, off, none⟩)) (hy : ev e y = v) (hv : v.cells.toList = vs)
    (hl : vs.length = k) (h1 : ∀ u ∈ vs, u.oneCell' = true) (ho : off + k ≤ cur.size) (hag : dr = true → ¬ S false b)
    (h : ∀ w', Upd (one b) w w' → w'.heap.size = w.heap.size → Blk w' b tb (put cur off vs) → wpR P ops S dr (kind B) F rest (updo e od undef) w') : wpR P ops S dr (kind B) F (⟨od, .store t x y, ty, pos, aft, none⟩ :: rest) e w := by
  refine runs (w' := w.setRow b (put cur off vs)) rfl ?_ (fun hd c hc => setRow_other w b c _ (fun e => hag hd (e ▸ hc))) (h _ (Upd.setRow _) (by simp) (hb.setRow _))
  simp [execOp, hx, hy, Instr.storeAt, Instr.sureAddr, run_storeVar hk hb hv hl h1 ho]

/-- A store of one cell into a block. -/
theorem store {x y : Operand} {t : TypeId} {by_ b i : Nat} {z : Value} {tb : TypeId} {cur : Array Value} {u : Value} (hk : Ty P t 1 by_ false z) (hb : Blk w b tb cur) (hx : ev e x = .pointer (some ⟨b, i, none⟩)) (hy : ev e y = u) (h1 : u.oneCell' = true) (hi : i < cur.size) (hag : dr = true → ¬ S false b)
    (h : ∀ w', Upd (one b) w w' → w'.heap.size = w.heap.size → Blk w' b tb (cur.setIfInBounds i u) → wpR P ops S dr (kind B) F rest (updo e od undef) w') : wpR P ops S dr (kind B) F (⟨od, .store t x y, ty, pos, aft, none⟩ :: rest) e w :=
  storeG (vs := [u]) hk hb hx hy (by rw [cells_one h1]) rfl (by simpa using h1) (by omega) hag (fun w' hu hs hB => h w' hu hs (by rw [← put_one hi]; exact hB))

/-- A store of a whole struct into its variable. -/
theorem storeA {x y : Operand} {t : TypeId} {k by_ b : Nat} {z : Value} {tb : TypeId} {cur us : Array Value} (hk : Ty P t k by_ true z) (hb : Blk w b tb cur) (hx : ev e x = .pointer (some ⟨b, 0, none⟩)) (hy : ev e y = .agg us) (hc : cur.size = k) (hu : us.size = k) (h1 : ∀ u ∈ us.toList, u.oneCell' = true) (hag : dr = true → ¬ S false b)
    (h : ∀ w', Upd (one b) w w' → w'.heap.size = w.heap.size → Blk w' b tb us → wpR P ops S dr (kind B) F rest (updo e od undef) w') : wpR P ops S dr (kind B) F (⟨od, .store t x y, ty, pos, aft, none⟩ :: rest) e w :=
  storeG (vs := us.toList) hk hb hx hy rfl (by simpa using hu) h1 (by omega) hag (fun w' hu' hs hB => h w' hu' hs (by
    have e1 : put cur 0 us.toList = us := by apply Array.ext'; simp [put, hu, hc]
    rw [e1] at hB; exact hB))

/-- A call. -/
theorem call {f : FuncId} {args : Array Operand} {ats : Array TypeId} {vs : Array Value} {Φ : Value → World → Prop} (hent : Entered P f) (hargs : args.map (ev e) = vs) (hc : Calls P f vs w (Ret Φ))
    (h : ∀ v w', Φ v w' → (dr = true → AgreeOn (S false) w w') ∧ wpR P ops S dr (kind B) F rest (updo e od v) w') :
    wpR P ops S dr (kind B) F (⟨od, .call { callee := .value (.func f), args := args, argTypes := ats }, ty, pos, aft, none⟩ :: rest) e w := by
  refine loud Φ (by simp [kind]) ?_ (fun v w' hΦ => ⟨fun hd => ⟨(h v w' hΦ).1 hd, fun h2 => by simp [kind] at h2⟩, (h v w' hΦ).2⟩)
  have e1 : execOp (ev e) ⟨od, .call { callee := .value (.func f), args := args, argTypes := ats }, ty, pos, aft, none⟩ = callFunc f (#[] ++ args.map (ev e) ++ #[]) := rfl
  rw [e1, hent, hargs]
  simp only [Array.empty_append, Array.append_empty]
  exact hc
/-- A call that makes memory at most. -/
theorem callE {f : FuncId} {args : Array Operand} {ats : Array TypeId} {vs : Array Value} {Φ : Value → World → Prop} (hent : Entered P f) (hargs : args.map (ev e) = vs) (hc : Calls P f vs w (Ret fun v w' => Ext w w' ∧ Φ v w'))
    (hag : dr = true → ∀ b, S false b → b < w.heap.size) (h : ∀ v w', Ext w w' → Φ v w' → wpR P ops S dr (kind B) F rest (updo e od v) w') :
    wpR P ops S dr (kind B) F (⟨od, .call { callee := .value (.func f), args := args, argTypes := ats }, ty, pos, aft, none⟩ :: rest) e w :=
  call hent hargs hc fun v w' ⟨hE, hΦ⟩ => ⟨fun hd => hE.agree fun b hb => ⟨hag hd b hb, id⟩, h v w' hE hΦ⟩
end R
end Go.Proofs.Ytfdmndkoiheebaa
