import Derived.Test.YtfdmndkoiheebaaZ14Base4
import Derived.Test.YtfdmndkoiheebaaZ14A2
import Derived.Laws.Cover3
namespace Go.Proofs.Ytfdmndkoiheebaa
open Go Go.RowKit
def mget : List (Int × Int) → Int → Option Int
  | [], _ => none
  | (a, b) :: M, k => if k = a then some b else mget M k
def mset : List (Int × Int) → Int → Int → List (Int × Int)
  | [], k, v => [(k, v)]
  | (a, b) :: M, k, v => if k = a then (k, v) :: M else (a, b) :: mset M k v
theorem mget_mset (M : List (Int × Int)) (k v x : Int) : mget (mset M k v) x = if x = k then some v else mget M x := by
  induction M with
  | nil => simp [mset, mget]
  | cons p M ih =>
    obtain ⟨a, b⟩ := p
    by_cases h : k = a
    · subst h; simp only [mset, if_true, mget]; split <;> rfl
    · simp only [mset, if_neg h, mget, ih]
      by_cases h2 : x = a
      · subst h2; simp [Ne.symm h]
      · simp [h2]
def Reads (es : List MapEntry) (M : List (Int × Int)) : Prop := es.map (fun e => (e.key, e.val)) = M.map fun p => (Value.int .i64 p.1, Value.int .i64 p.2)
def MapI (w : World) (r : Nat) (M : List (Int × Int)) : Prop := ∃ es clock, w.heap[r]? = some (.map es clock) ∧ Reads es.toList M
theorem MapI.lt {w : World} {r : Nat} {M : List (Int × Int)} (h : MapI w r M) : r < w.heap.size := by obtain ⟨es, c, h, _⟩ := h; exact lt_of_get h
theorem MapI.up {X : Nat → Prop} {w w' : World} {r : Nat} {M : List (Int × Int)} (h : MapI w r M) (u : Upd X w w') (hx : ¬ X r) : MapI w' r M := by
  obtain ⟨es, c, h, hr⟩ := h; exact ⟨es, c, (u.blk r (lt_of_get h) hx).trans h, hr⟩
theorem MapI.ext {w w' : World} {r : Nat} {M : List (Int × Int)} (h : MapI w r M) (u : Ext w w') : MapI w' r M := h.up u id
theorem MapI.ne {w : World} {r b : Nat} {M : List (Int × Int)} {ty : TypeId} {cs : Array Value} (h : MapI w r M) (hb : Blk w b ty cs) : r ≠ b := by
  rintro rfl
  obtain ⟨es, c, h, _⟩ := h
  unfold Blk at hb
  rw [hb] at h
  cases h
theorem MapI.upT {w w' : World} {r b : Nat} {M : List (Int × Int)} {ty : TypeId} {cs : Array Value} (h : MapI w r M) (u : Upd (one b) w w') (hb : Blk w b ty cs) : MapI w' r M := h.up u (h.ne hb)
theorem findNow_reads {k : Int} : ∀ (es : List MapEntry) (M : List (Int × Int)) (i : Nat), Reads es M →
    ∃ r, Instr.findNow (.int .i64) (.int .i64 k) es i = some r ∧
      ((r = none ∧ mget M k = none ∧ mset M k = fun v => M ++ [(k, v)]) ∨
       (∃ j v, r = some (i + j, .int .i64 v) ∧ mget M k = some v ∧ j < es.length ∧ (∀ e, es[j]? = some e → e.key = .int .i64 k) ∧ ∀ u, mset M k u = M.set j (k, u))) := by
  intro es
  induction es with
  | nil =>
    intro M i h
    have : M = [] := by simpa [Reads] using h.symm
    subst this
    exact ⟨none, rfl, .inl ⟨rfl, rfl, rfl⟩⟩
  | cons x es ih =>
    intro M i h
    cases M with
    | nil => simp [Reads] at h
    | cons p M =>
      obtain ⟨a, b⟩ := p
      obtain ⟨xk, xv, xb⟩ := x
      simp only [Reads, List.map_cons, List.cons.injEq, Prod.mk.injEq] at h
      obtain ⟨⟨rfl, rfl⟩, h⟩ := h
      by_cases hk : k = a
      · subst hk
        refine ⟨some (i, .int .i64 b), by simp [Instr.findNow, Instr.sameNow], .inr ⟨0, b, rfl, by simp [mget], by simp, by simp, fun u => by simp [mset]⟩⟩
      · obtain ⟨r, hr, hc⟩ := ih M (i + 1) h
        have hk' : (k == a) = false := by simpa using hk
        refine ⟨r, by simp [Instr.findNow, Instr.sameNow, hk', hr], ?_⟩
        rcases hc with ⟨rfl, h1, h2⟩ | ⟨j, v, rfl, h1, h2, h3, h4⟩
        · exact .inl ⟨rfl, by simp [mget, hk, h1], by funext v; simp [mset, hk, congrFun h2 v]⟩
        · exact .inr ⟨j + 1, v, by simp; omega, by simp [mget, hk, h1], by simp; omega, by simpa using h3, fun u => by simp [mset, hk, h4]⟩
theorem checkKey_int {P : Program} {t : TypeId} {k : Int} {b : Bool} {n : Nat} (hu : P.underlying t = some (.int .i64)) (w : World) : (Instr.checkKey b (n + 1) t (.int .i64 k)).run P w = .ok () w := by
  simp [Instr.checkKey, underlying, hu]
theorem run_getMap {P : Program} {w : World} {r : Nat} {es : Array MapEntry} {c : Nat} (h : w.heap[r]? = some (.map es c)) : (getObj r).run P w = .ok (.map es c) w := by
  simp only [getObj, Sem.run, h]
theorem run_setMap {P : Program} {w : World} {r : Nat} {es : Array MapEntry} {c : Nat} {o : Obj} (h : w.heap[r]? = some (.map es c)) : (setObj r o).run P w = .ok () { w with heap := w.heap.setIfInBounds r o } := by
  simp only [setObj, Sem.run, h]
theorem run_lookup {P : Program} {w : World} {t kt et : TypeId} {r : Nat} {M : List (Int × Int)} {k : Int} {ok : Bool} (hu : P.underlying t = some (.map kt et)) (hk : P.underlying kt = some (.int .i64)) (hz : ∀ w, (zeroValue et).run P w = .ok (.int .i64 0) w) (h : MapI w r M) :
    (Instr.lookup t (.map (some r)) (.int .i64 k) ok).run P w = .ok (if ok then .tuple #[.int .i64 ((mget M k).getD 0), .bool (mget M k).isSome] else .int .i64 ((mget M k).getD 0)) w := by
  obtain ⟨es, c, he, hr⟩ := h
  obtain ⟨q, hq, hc⟩ := findNow_reads (k := k) es.toList M 0 hr
  have hck : (Instr.checkKey es.isEmpty 10000 kt (.int .i64 k)).run P w = .ok () w := checkKey_int (n := 9999) hk w
  rcases hc with ⟨rfl, h1, _⟩ | ⟨j, v, rfl, h1, _⟩
  · cases ok <;> simp [Instr.lookup, underlying, hu, run_getMap he, hck, Instr.findKey, hk, hq, hz, h1]
  · cases ok <;> simp [Instr.lookup, underlying, hu, run_getMap he, hck, Instr.findKey, hk, hq, h1]
theorem run_mapUpdate {P : Program} {w : World} {t kt et : TypeId} {r : Nat} {M : List (Int × Int)} {k v : Int} (hu : P.underlying t = some (.map kt et)) (hk : P.underlying kt = some (.int .i64)) (h : MapI w r M) :
    ∃ w', (Instr.mapUpdate t (.map (some r)) (.int .i64 k) (.int .i64 v)).run P w = .ok () w' ∧ Upd (one r) w w' ∧ w'.heap.size = w.heap.size ∧ (∀ c, c ≠ r → w'.heap[c]? = w.heap[c]?) ∧ MapI w' r (mset M k v) := by
  obtain ⟨es, c, he, hr⟩ := h
  obtain ⟨q, hq, hc⟩ := findNow_reads (k := k) es.toList M 0 hr
  have hck : (Instr.checkKey false 10000 kt (.int .i64 k)).run P w = .ok () w := checkKey_int (n := 9999) hk w
  have hset : ∀ o : Obj, (setObj r o).run P w = .ok () { w with heap := w.heap.setIfInBounds r o } := fun o => run_setMap he
  have hlt : r < w.heap.size := lt_of_get he
  have hupd : ∀ o : Obj, Upd (one r) w { w with heap := w.heap.setIfInBounds r o } ∧ ({ w with heap := w.heap.setIfInBounds r o } : World).heap.size = w.heap.size ∧ (∀ c, c ≠ r → ({ w with heap := w.heap.setIfInBounds r o } : World).heap[c]? = w.heap[c]?) := fun o =>
    ⟨⟨rfl, rfl, rfl, by simp, fun b _ hb => by
      show (w.heap.setIfInBounds r o)[b]? = _
      rw [Array.getElem?_setIfInBounds_ne (fun e => hb e.symm)]⟩, by simp, fun b hb => by
      show (w.heap.setIfInBounds r o)[b]? = _
      rw [Array.getElem?_setIfInBounds_ne (fun e => hb e.symm)]⟩
  have hget : ∀ o : Obj, ({ w with heap := w.heap.setIfInBounds r o } : World).heap[r]? = some o := fun o => by
    show (w.heap.setIfInBounds r o)[r]? = _
    simp [hlt]
  rcases hc with ⟨rfl, _, h2⟩ | ⟨j, u, rfl, _, hj, hkey, h4⟩
  · refine ⟨_, ?_, (hupd (.map (es.push { key := .int .i64 k, val := .int .i64 v, born := c }) (c + 1))).1, (hupd _).2.1, (hupd _).2.2, ?_⟩
    · simp [Instr.mapUpdate, underlying, hu, run_getMap he, hck, Instr.findKey, hk, hq, hset]
    · refine ⟨_, _, hget _, ?_⟩
      rw [congrFun h2 v]
      unfold Reads at hr ⊢
      simp [hr]
  · have hjs : j < es.size := by simpa using hj
    have hkj : es[j].key = .int .i64 k := hkey es[j] (by simp [hjs])
    refine ⟨_, ?_, (hupd (.map (es.modify j fun e => { e with key := .int .i64 k, val := .int .i64 v }) c)).1, (hupd _).2.1, (hupd _).2.2, ?_⟩
    · simp [Instr.mapUpdate, underlying, hu, run_getMap he, hck, Instr.findKey, hk, hq, hset, hjs, hkj, Instr.keyThatStays, Instr.sameBits]
    · refine ⟨_, _, hget _, ?_⟩
      rw [h4]
      unfold Reads at hr ⊢
      apply List.ext_getElem?
      intro i
      have hri := congrArg (fun l : List (Value × Value) => l[i]?) hr
      simp only [List.getElem?_map] at hri
      simp only [List.getElem?_map, List.getElem?_set, Array.toList_modify, List.getElem?_modify]
      have hlen : es.toList.length = M.length := by simpa using congrArg List.length hr
      by_cases hij : j = i
      · subst hij
        have hjM : j < M.length := by rw [← hlen]; exact hj
        simp [hjs, hjM]
      · simp only [hij, if_false]
        rw [← hri]
        simp
namespace R
variable {P : Program} {ops : Array Oper} {S : Bool → Nat → Prop} {dr : Bool} {B : List Nat} {F : Env → World → Prop} {rest : List Oper} {e : Env} {w : World}
variable {d : Tmp} {od : Option Tmp} {ty : TypeId} {pos : String} {aft : Array Edge}
theorem makeMap {t : TypeId} (hag : dr = true → ∀ c b, S c b → b < w.heap.size)
    (h : ∀ b w', w.heap.size ≤ b → Ext w w' → MapI w' b [] → wpR P ops S dr (kind B) F rest (upd e d (.map (some b))) w') : wpR P ops S dr (kind B) F (⟨some d, .makeMap t none, ty, pos, aft, none⟩ :: rest) e w := by
  have hE : Ext w (w.alloc (.map #[] 0)) := Upd.push _ _
  refine run2 (w' := w.alloc (.map #[] 0)) (v := .map (some w.heap.size)) rfl ?_ (fun hd c => hE.agree fun b hb => ⟨hag hd c b hb, id⟩) (h _ _ (Nat.le_refl _) hE ⟨#[], 0, by show (w.heap.push _)[w.heap.size]? = _; simp, rfl⟩)
  simp [execOp, Instr.makeMap]
theorem look {t kt et : TypeId} {x y : Operand} {r : Nat} {M : List (Int × Int)} {k : Int} {by_ : Nat} (hu : P.underlying t = some (.map kt et)) (hk : P.underlying kt = some (.int .i64)) (hz : Ty P et 1 by_ false (.int .i64 0)) (hM : MapI w r M) (hx : ev e x = .map (some r)) (hy : ev e y = .int .i64 k) (hS : S false r)
    (h : wpR P ops S dr (kind B) F rest (upd e d (.int .i64 ((mget M k).getD 0))) w) : wpR P ops S dr (kind B) F (⟨some d, .lookup t x y false, ty, pos, aft, none⟩ :: rest) e w := by
  refine quiet _ rfl (fun w' ha => ?_) h
  have hM' : MapI w' r M := by obtain ⟨es, c, he, hr⟩ := hM; exact ⟨es, c, (ha r hS).trans he, hr⟩
  have := run_lookup (ok := false) (k := k) hu hk hz.zero hM'
  simp [execOp, hx, hy, this]
theorem lookOk {t kt et : TypeId} {x y : Operand} {r : Nat} {M : List (Int × Int)} {k : Int} {by_ : Nat} (hu : P.underlying t = some (.map kt et)) (hk : P.underlying kt = some (.int .i64)) (hz : Ty P et 1 by_ false (.int .i64 0)) (hM : MapI w r M) (hx : ev e x = .map (some r)) (hy : ev e y = .int .i64 k) (hS : S false r)
    (h : wpR P ops S dr (kind B) F rest (upd e d (.tuple #[.int .i64 ((mget M k).getD 0), .bool (mget M k).isSome])) w) : wpR P ops S dr (kind B) F (⟨some d, .lookup t x y true, ty, pos, aft, none⟩ :: rest) e w := by
  refine quiet _ rfl (fun w' ha => ?_) h
  have hM' : MapI w' r M := by obtain ⟨es, c, he, hr⟩ := hM; exact ⟨es, c, (ha r hS).trans he, hr⟩
  have := run_lookup (ok := true) (k := k) hu hk hz.zero hM'
  simp [execOp, hx, hy, this]
theorem mapSet {t kt et : TypeId} {x y z : Operand} {r : Nat} {M : List (Int × Int)} {k v : Int} (hu : P.underlying t = some (.map kt et)) (hk : P.underlying kt = some (.int .i64)) (hM : MapI w r M) (hx : ev e x = .map (some r)) (hy : ev e y = .int .i64 k) (hv : ev e z = .int .i64 v) (hag : dr = true → ¬ S false r)
    (h : ∀ w', Upd (one r) w w' → w'.heap.size = w.heap.size → MapI w' r (mset M k v) → wpR P ops S dr (kind B) F rest (updo e od undef) w') : wpR P ops S dr (kind B) F (⟨od, .mapUpdate t x y z, ty, pos, aft, none⟩ :: rest) e w := by
  obtain ⟨w', hrun, hU, hs, ho, hM'⟩ := run_mapUpdate (v := v) hu hk hM (k := k)
  refine runs (w' := w') rfl ?_ (fun hd c hc => ho c (fun e => hag hd (e ▸ hc))) (h w' hU hs hM')
  simp [execOp, hx, hy, hv, hrun]
end R
end Go.Proofs.Ytfdmndkoiheebaa

namespace Go.Proofs.Ytfdmndkoiheebaa
open Go Go.RowKit
def indexL (xs : List Int) (b : Int) : Int := if b ∈ xs then (xs.idxOf b : Int) else -1
theorem indexL_hit {xs : List Int} {b : Int} {k : Nat} (hk : k < xs.length) (h : b = xs[k]) (hn : b ∉ xs.take k) : indexL xs b = k := by
  have hm : b ∈ xs := h ▸ List.getElem_mem hk
  have e1 : xs.idxOf b = k := by
    have h1 := List.take_append_drop k xs
    rw [← h1, List.idxOf_append, if_neg hn, List.drop_eq_getElem_cons hk, ← h, List.idxOf_cons_self]
    simp; omega
  simp [indexL, hm, e1]
theorem indexL_miss {xs : List Int} {b : Int} (hn : b ∉ xs) : indexL xs b = -1 := by simp [indexL, hn]
theorem sIndex (w : World) {v : Value} {xs : List Int} {b : Int} (h : Ints w v xs) (hl : xs.length < 1000000000) :
    Calls Try.prog 61 #[v, .int .i64 b] w (Ret fun r w' => Ext w w' ∧ r = .int .i64 (indexL xs b)) := by
  refine calls_E (args := [v, .int .i64 b]) 19 Try.func61 rfl rfl (by simp) ?_
  have hE : Ext w w := Upd.refl w
  refine E.seq ?_
  refine E.regionP rfl ?_
  refine R.assign ?_
  refine R.nil ?_
  refine E.seq ?_
  refine E.seq ?_
  refine E.regionP rfl ?_
  refine R.move ?_
  refine R.len Try.underlying35 h rfl ?_
  refine R.move ?_
  refine R.nil ?_
  refine E.block ?_
  refine E.loop (fun n e wr => ∃ k : Nat, n = xs.length - k ∧ k ≤ xs.length ∧ b ∉ xs.take k ∧ Ext w wr ∧ Has e [(0, v), (1, .int .i64 b), (7, .int .i64 xs.length), (8, .int .i64 k)]) (xs.length) ?_ ?_
  · exact ⟨0, rfl, Nat.zero_le _, by simp, hE, rfl, rfl, rfl, rfl, trivial⟩
  · rintro n e wr ⟨k, rfl, hk, hn, hE, hH⟩
    obtain ⟨e, rfl⟩ := hH.ex
    clear hH
    refine E.seq ?_
    refine E.regionP rfl ?_
    refine R.lss rfl rfl rfl ?_
    refine R.nil ?_
    refine E.seq ?_
    refine E.cond rfl (fun hc9 => ?_) (fun hc9 => ?_)
    · replace hc9 := dT hc9
      refine E.skip ?_
      refine E.seq ?_
      refine E.block ?_
      refine E.seq ?_
      refine E.regionP rfl ?_
      refine R.move ?_
      refine R.assign ?_
      refine R.nil ?_
      refine E.seq ?_
      refine E.regionP rfl ?_
      refine R.move ?_
      refine R.move ?_
      refine R.move ?_
      refine R.ix Try.underlying35 t3 (by decide) h rfl rfl (by omega) ?_
      refine R.ld t3 (h.ext hE) rfl (int_at (by omega)) rfl (fun _ _ => trivial) ?_
      refine R.eql rfl rfl rfl ?_
      refine R.nil ?_
      refine E.cond rfl (fun hc16 => ?_) (fun hc16 => ?_)
      · replace hc16 := dT hc16
        refine E.seq ?_
        refine E.regionP rfl ?_
        refine R.move ?_
        refine R.assign ?_
        refine R.nil ?_
        refine E.ret ?_
        refine ret1 (.int .i64 k) rfl rfl ⟨_, rfl, hE, ?_⟩
        rw [indexL_hit (by omega) hc16 hn]
      · replace hc16 := dF hc16
        refine E.skip ?_
        refine E.regionP rfl ?_
        refine R.addN (n := 1) rfl rfl (by omega) ?_
        refine R.move ?_
        refine R.nil ?_
        refine ⟨xs.length - (k + 1), by omega, k + 1, rfl, by omega, ?_, hE, rfl, rfl, rfl, rfl, trivial⟩
        show b ∉ xs.take (k + 1)
        rw [List.take_succ_eq_append_getElem (by omega), List.mem_append]
        rintro (h1 | h1)
        · exact hn h1
        · simp at h1; exact hc16 h1
    · replace hc9 := dF hc9
      refine E.exit ?_
      refine E.seq ?_
      refine E.regionP rfl ?_
      refine R.assign ?_
      refine R.nil ?_
      refine E.ret ?_
      refine ret1 (.int .i64 (-1)) rfl rfl ⟨_, rfl, hE, ?_⟩
      obtain rfl : k = xs.length := by omega
      rw [List.take_length] at hn
      rw [indexL_miss hn]
def Fresh (w : World) (v : Value) : Prop := ∀ b, vblk v = some b → w.heap.size ≤ b
theorem Fresh.nil (w : World) : Fresh w (.slice none 0 0) := fun b hb => by simp [vblk] at hb
theorem Fresh.mono {w w' : World} {v : Value} (h : Fresh w' v) (hs : w.heap.size ≤ w'.heap.size) : Fresh w v := fun b hb => Nat.le_trans hs (h b hb)
theorem R.eqNil {P : Program} {ops : Array Oper} {S : Bool → Nat → Prop} {dr : Bool} {B : List Nat} {F : Env → World → Prop} {rest : List Oper} {e : Env} {w w0 : World} {d : Tmp} {ty : TypeId} {pos : String} {aft : Array Edge} {t t' el : TypeId} {x : Operand} {k n : Nat} {cs : List Value} {v : Value}
    (hu : P.underlying t = some (.slice el)) (hr : Row w0 k v n cs) (hx : ev e x = v) (h : ∀ b : Bool, (b = true → v = .slice none n (vcap v) ∧ cs = []) → (b = false → (vblk v).isSome = true) → wpR P ops S dr (kind B) F rest (upd e d (.bool b)) w) :
    wpR P ops S dr (kind B) F (⟨some d, .binOp .eql t x (.const (.slice none 0 0)) t', ty, pos, aft, none⟩ :: rest) e w := by
  obtain ⟨a, c, rfl, hc, hl, hj⟩ := hr
  refine R.quiet (.bool a.isNone) rfl (fun w' _ => ?_) (h _ (fun ha => ?_) (fun ha => ?_))
  · have h1 := run_equal_slice_nil (P := P) w' t el a n c hu
    have h2 : ∀ w : World, (eqGuard .eql t x (.const (.slice none 0 0)) (.slice a n c) (.slice none 0 0)).run P w = .ok () w := fun w => by unfold eqGuard; simp
    have h3 : ev e (.const (.slice none 0 0)) = .slice none 0 0 := rfl
    simp [execOp, hx, h3, h2, binOp, h1]
  · simp at ha; subst ha
    refine ⟨rfl, ?_⟩
    cases cs with
    | nil => rfl
    | cons y ys => obtain ⟨p, hp, _⟩ := hj 0 (by simp); cases hp
  · cases a with
    | none => simp at ha
    | some p => rfl
theorem sClone (w : World) {v : Value} {xs : List Int} (h : Ints w v xs) (hl : xs.length < 1000000000) :
    Calls Try.prog 62 #[v] w (Ret fun r w' => Ext w w' ∧ SInts w' r xs ∧ Fresh w r) := by
  refine calls_E (args := [v]) 8 Try.func62 rfl rfl (by simp) ?_
  have hE : Ext w w := Upd.refl w
  refine E.seq ?_
  refine E.regionP rfl ?_
  refine R.assign ?_
  refine R.nil ?_
  refine E.seq ?_
  refine E.seq ?_
  refine E.regionP rfl ?_
  refine R.move ?_
  refine R.eqNil Try.underlying35 h rfl (fun q4 hq4 hn4 => ?_)
  refine R.nil ?_
  refine E.cond rfl (fun hc4 => ?_) (fun hc4 => ?_)
  · refine E.seq ?_
    refine E.regionP rfl ?_
    refine R.assign ?_
    refine R.nil ?_
    refine E.ret ?_
    refine ret1 (.slice none 0 0) rfl rfl ⟨_, rfl, hE, ?_, Fresh.nil _⟩
    have : xs = [] := by simpa using (hq4 hc4).2
    subst this
    exact Sl.nil _ _ _
  · refine E.skip ?_
    refine E.seq ?_
    refine E.regionP rfl ?_
    refine R.buildSlice [] Try.underlying35 t3 rfl rfl (by simp) (by simp) nofun ?_
    intro b5 w5 hb5 hx5 hB5 hS5
    replace hE := hE.ext hx5
    refine R.move ?_
    refine R.append Try.underlying35 Try.underlying35 t3 (by decide) rfl hS5 (h.ext hE) ints_one rfl rfl (by simp; omega) (by simp; omega) nofun ?_
    intro v7 w7 hU7 hS7 hd7
    refine R.assign ?_
    refine R.nil ?_
    refine E.ret ?_
    refine ret1 v7 rfl rfl ⟨_, rfl, ?_, ?_, ?_⟩
    · exact hE.trans hU7 (fun b hb hx => by simp [vblk] at hx; omega)
    · simpa [cellsOf] using hS7
    · intro b hb
      rcases hd7 with ⟨h1, _⟩ | ⟨b', h1, h2, _⟩
      · rw [h1] at hb; simp [vblk] at hb; omega
      · rw [h1] at hb; simp at hb; have := hE.size; omega
def markL (k i : Nat) : Int := 1000003 * (k + 7) + i
theorem mark_ (w : World) {k i : Nat} (hk : k < 1000) (hi : i < 1000000) : Calls Try.prog 97 #[.int .i64 k, .int .i64 i] w (Ret fun r w' => Ext w w' ∧ r = .int .i64 (markL k i)) := by
  refine calls_E (args := [.int .i64 k, .int .i64 i]) 10 Try.func97 rfl rfl (by simp) ?_
  have hE : Ext w w := Upd.refl w
  refine E.seq ?_
  refine E.regionP rfl ?_
  refine R.assign ?_
  refine R.nil ?_
  refine E.seq ?_
  refine E.regionP rfl ?_
  refine R.move ?_
  refine R.addN (n := 7) rfl rfl (by omega) ?_
  refine R.mulN (m := 1000003) rfl rfl (by omega) ?_
  refine R.move ?_
  refine R.addN rfl rfl (by omega) ?_
  refine R.assign ?_
  refine R.nil ?_
  refine E.ret ?_
  refine ret1 (.int .i64 ((1000003 * (k + 7) + i : Nat) : Int)) rfl rfl ⟨_, rfl, hE, ?_⟩
  simp [markL]
theorem markWater_ (w : World) {k i : Nat} (hk : k < 1000) (hi : i < 1000000) : Calls Try.prog 91 #[.int .i64 k, .int .i64 i] w (Ret fun r w' => Ext w w' ∧ SInts w' r [markL k i] ∧ Fresh w r) := by
  refine calls_E (args := [.int .i64 k, .int .i64 i]) 9 Try.func91 rfl rfl (by simp) ?_
  have hE : Ext w w := Upd.refl w
  refine E.seq ?_
  refine E.regionP rfl ?_
  refine R.assign ?_
  refine R.nil ?_
  refine E.seq ?_
  refine E.regionP rfl ?_
  refine R.move ?_
  refine R.move ?_
  refine R.callE2 ent97 (mark_ _ hk hi) rfl rfl nofun ?_
  rintro v7 w1 hx1 rfl
  replace hE := hE.ext hx1
  refine R.buildSlice [.int .i64 (markL k i)] Try.underlying35 t3 rfl rfl (by simp [Value.cells]) (by simp) nofun ?_
  intro b8 w8 hb8 hx8 hB8 hS8
  refine R.assign ?_
  refine R.nil ?_
  refine E.ret ?_
  refine ret1 (.slice (some ⟨b8, 0, none⟩) 1 1) rfl rfl ⟨_, rfl, hE.ext hx8, hS8, ?_⟩
  intro b hb
  simp [vblk] at hb
  have := hE.size
  omega
end Go.Proofs.Ytfdmndkoiheebaa
