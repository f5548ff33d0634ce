/- Maps from int to int that are ranged over. -/
import Derived.Test.YtfdmndkoiheebaaMaps
import Derived.Laws.IdiomRangeMap
namespace Go.Proofs.Ytfdmndkoiheebaa
open Go Go.RowKit

/-- A map whose stamps are below its clock. -/
def MapJ (w : World) (r : Nat) (M : List (Int × Int)) : Prop := ∃ es clock, w.heap[r]? = some (.map es clock) ∧ Reads es.toList M ∧ ∀ x ∈ es.toList, x.born < clock
theorem MapJ.i {w : World} {r : Nat} {M : List (Int × Int)} (h : MapJ w r M) : MapI w r M := by obtain ⟨es, c, h, hr, _⟩ := h; exact ⟨es, c, h, hr⟩
theorem MapJ.up {X : Nat → Prop} {w w' : World} {r : Nat} {M : List (Int × Int)} (h : MapJ w r M) (u : Upd X w w') (hx : ¬ X r) : MapJ w' r M := by
  obtain ⟨es, c, h, hr⟩ := h; exact ⟨es, c, (u.blk r (lt_of_get h) hx).trans h, hr⟩
theorem MapJ.ext {w w' : World} {r : Nat} {M : List (Int × Int)} (h : MapJ w r M) (u : Ext w w') : MapJ w' r M := h.up u id
theorem MapJ.upT {w w' : World} {r b : Nat} {M : List (Int × Int)} {ty : TypeId} {cs : Array Value} (h : MapJ w r M) (u : Upd (one b) w w') (hb : Blk w b ty cs) (_ : 1 = 1) : MapJ w' r M := h.up u (h.i.ne hb)
theorem Reads.len {es : List MapEntry} {M : List (Int × Int)} (h : Reads es M) : es.length = M.length := by simpa using congrArg List.length h
theorem Reads.mem {es : List MapEntry} {M : List (Int × Int)} (h : Reads es M) {x : MapEntry} (hx : x ∈ es) : ∃ p ∈ M, x.key = .int .i64 p.1 ∧ x.val = .int .i64 p.2 := by
  have : (x.key, x.val) ∈ es.map (fun e => (e.key, e.val)) := List.mem_map.2 ⟨x, hx, rfl⟩
  rw [h] at this
  obtain ⟨p, hp, e⟩ := List.mem_map.1 this
  simp at e
  exact ⟨p, hp, e.1.symm, e.2.symm⟩

theorem run_mapUpdateJ {P : Program} {w : World} {t kt et : TypeId} {r : Nat} {M : List (Int × Int)} {k v : Int} (hu : P.underlying t = some (.map kt et)) (hk : P.underlying kt = some (.int .i64)) (h : MapJ w r M) :
    ∃ w', (Instr.mapUpdate t (.map (some r)) (.int .i64 k) (.int .i64 v)).run P w = .ok () w' ∧ Upd (one r) w w' ∧ w'.heap.size = w.heap.size ∧ (∀ c, c ≠ r → w'.heap[c]? = w.heap[c]?) ∧ MapJ w' r (mset M k v) := by
  obtain ⟨w', h1, h2, h3, h4, h5⟩ := run_mapUpdate (k := k) (v := v) hu hk h.i
  refine ⟨w', h1, h2, h3, h4, ?_⟩
  obtain ⟨es, c, he, hr, hb⟩ := h
  obtain ⟨es', c', he', hr'⟩ := h5
  refine ⟨es', c', he', hr', ?_⟩
  obtain ⟨q, hq, hc⟩ := findNow_reads (k := k) es.toList M 0 hr
  have hck : (Instr.checkKey false 10000 kt (.int .i64 k)).run P w = .ok () w := checkKey_int (n := 9999) hk w
  have hset : ∀ o : Obj, (setObj r o).run P w = .ok () { w with heap := w.heap.setIfInBounds r o } := fun o => run_setMap he
  have hlt : r < w.heap.size := lt_of_get he
  have hget : ∀ o : Obj, ({ w with heap := w.heap.setIfInBounds r o } : World).heap[r]? = some o := fun o => by
    show (w.heap.setIfInBounds r o)[r]? = _
    simp [hlt]
  rcases hc with ⟨rfl, _, _⟩ | ⟨j, u, rfl, _, hj, hkey, _⟩
  · have hrun : (Instr.mapUpdate t (.map (some r)) (.int .i64 k) (.int .i64 v)).run P w = .ok () { w with heap := w.heap.setIfInBounds r (.map (es.push { key := .int .i64 k, val := .int .i64 v, born := c }) (c + 1)) } := by
      simp [Instr.mapUpdate, underlying, hu, run_getMap he, hck, Instr.findKey, hk, hq, hset]
    rw [h1] at hrun
    injection hrun with _ hw
    subst hw
    rw [hget] at he'
    injection he' with he'
    injection he' with e1 e2
    subst e1 e2
    intro x hx
    simp at hx
    rcases hx with hx | rfl
    · have := hb x (by simpa using hx); omega
    · simp
  · have hjs : j < es.size := by simpa using hj
    have hkj : es[j].key = .int .i64 k := hkey es[j] (by simp [hjs])
    have hrun : (Instr.mapUpdate t (.map (some r)) (.int .i64 k) (.int .i64 v)).run P w = .ok () { w with heap := w.heap.setIfInBounds r (.map (es.modify j fun e => { e with key := .int .i64 k, val := .int .i64 v }) c) } := by
      simp [Instr.mapUpdate, underlying, hu, run_getMap he, hck, Instr.findKey, hk, hq, hset, hjs, hkj, Instr.keyThatStays, Instr.sameBits]
    rw [h1] at hrun
    injection hrun with _ hw
    subst hw
    rw [hget] at he'
    injection he' with he'
    injection he' with e1 e2
    subst e1 e2
    intro x hx
    rw [Array.toList_modify] at hx
    obtain ⟨i, hi⟩ := List.getElem?_of_mem hx
    rw [List.getElem?_modify] at hi
    cases hq : es.toList[i]? with
    | none => simp [hq] at hi
    | some y =>
      have hy := hb y (List.mem_of_getElem? hq)
      rw [hq] at hi
      simp only [Option.map_eq_map, Option.map_some, Option.some.injEq] at hi
      split at hi <;> (subst hi; exact hy)

/-- An iterator over a map: k entries are still to come. -/
structure It (w : World) (i r : Nat) (es : Array MapEntry) (clock k : Nat) : Prop where
  map : w.heap[r]? = some (.map es clock)
  born : ∀ x ∈ es.toList, x.born < clock
  it : ∃ seen, w.heap[i]? = some (.mapIter (some r) clock seen clock) ∧ (leftOf es seen).size = k
/-- An entry has come. -/
def Came (w : World) (i r : Nat) (es : Array MapEntry) (clock : Nat) : Prop := w.heap[r]? = some (.map es clock) ∧ ∃ (seen : Array Nat) (x : MapEntry), w.heap[i]? = some (.mapIter (some r) clock (seen.push x.born) clock) ∧ x ∈ es.toList
theorem It.up {X : Nat → Prop} {w w' : World} {i r k clock : Nat} {es : Array MapEntry} (h : It w i r es clock k) (u : Upd X w w') (h1 : ¬ X i) (h2 : ¬ X r) : It w' i r es clock k := by
  obtain ⟨seen, h3, h4⟩ := h.it
  exact ⟨(u.blk r (lt_of_get h.map) h2).trans h.map, h.born, seen, (u.blk i (lt_of_get h3) h1).trans h3, h4⟩
theorem It.ext {w w' : World} {i r k clock : Nat} {es : Array MapEntry} (h : It w i r es clock k) (u : Ext w w') : It w' i r es clock k := h.up u id id
theorem left_lt {es : Array MapEntry} {seen : Array Nat} {x : MapEntry} (hx : x ∈ (leftOf es seen).toList) : (leftOf es (seen.push x.born)).size < (leftOf es seen).size := by
  have e : ∀ s : Array Nat, (leftOf es s).toList = es.toList.filter fun e => !s.contains e.born := fun s => by simp [leftOf]
  rw [← Array.length_toList, ← Array.length_toList, e, e]
  rw [e] at hx
  have h1 : es.toList.filter (fun e => !(seen.push x.born).contains e.born) = (es.toList.filter fun e => !seen.contains e.born).filter (fun e => e.born != x.born) := by
    rw [List.filter_filter]
    refine List.filter_congr fun y _ => ?_
    by_cases h : y.born = x.born <;> simp [h]
  rw [h1]
  rcases Nat.lt_or_ge ((es.toList.filter fun e => !seen.contains e.born).filter (fun e => e.born != x.born)).length (es.toList.filter fun e => !seen.contains e.born).length with h | h
  · exact h
  · exfalso
    have := List.length_filter_eq_length_iff.1 (Nat.le_antisymm (List.length_filter_le _ _) h) x hx
    simp at this
theorem run_next {P : Program} {w : World} {i r k clock : Nat} {es : Array MapEntry} {ty : TypeId} (h : It w i r es clock k) :
    ∃ v w', (Instr.next (.pointer (some ⟨i, 0, none⟩)) false ty).run P w = .ok v w' ∧ Upd (one i) w w' ∧ (v = .tuple #[.bool false] ∨ ∃ (x : MapEntry) (k' : Nat), v = .tuple #[.bool true, x.key, x.val] ∧ k' < k ∧ It w' i r es clock k' ∧ Came w' i r es clock) := by
  obtain ⟨seen, hi, rfl⟩ := h.it
  have hir : i ≠ r := fun e => by subst e; rw [h.map] at hi; cases hi
  have ht := next_test_false seen es clock clock h.born (Nat.le_refl _)
  have hmem : ∀ x ∈ (leftOf es seen).toList, x.born < clock := fun x hx => h.born x (by unfold leftOf at hx; simp at hx ⊢; exact hx.1)
  have hsub : ∀ x ∈ (leftOf es seen).toList, x ∈ es.toList := fun x hx => by unfold leftOf at hx; simp at hx ⊢; exact hx.1
  have hlt := fun {x : MapEntry} (hx : x ∈ (leftOf es seen).toList) => left_lt hx
  simp only [Instr.next, getObj, Sem.run_bind, Sem.run, hi, h.map, Result.andThen, ht, Bool.false_eq_true, if_false]
  show ∃ v w', _
  have e0 : Array.filter (fun e => !seen.contains e.born) es = leftOf es seen := rfl
  rw [e0]
  generalize hL : leftOf es seen = L at hmem hsub hlt ⊢
  have e1 : L.filter (fun x => decide (x.born < clock)) = L := Array.filter_eq_self.2 (fun x hx => by simpa using hmem x (by simpa using hx))
  have e2 : L.filter (fun x => decide (x.born ≥ clock)) = #[] := by
    rw [Array.filter_eq_empty_iff]
    intro x hx
    have := hmem x (by simpa using hx)
    simp
    omega
  simp only [e1, e2, Array.append_empty]
  by_cases h0 : L.size = 0
  · have : L = #[] := Array.eq_empty_of_size_eq_zero h0
    subst this
    refine ⟨.tuple #[.bool false], w, ?_, Upd.refl _, .inl rfl⟩
    simp [choose, Sem.run, Question.forced]
  · have hne : L.isEmpty = false := by simp [Array.isEmpty, h0]
    simp only [hne, Bool.false_eq_true, if_false, Array.empty_append, Array.size_map]
    have hch : ∃ (j : Nat) (w1 : World), j < L.size ∧ Ext w w1 ∧ w1.heap = w.heap ∧ (choose (Question.mapNext L.size)).run P w = .ok j w1 := by
      by_cases hf : L.size ≤ 1
      · exact ⟨0, w, by omega, Upd.refl _, rfl, by simp [choose, Sem.run, Question.forced, hf]⟩
      · exact ⟨_, w.drew, Nat.mod_lt _ (by omega), Upd.drew _, rfl, by
          simp only [choose, Sem.run, Question.forced, decide_eq_true_eq, hf, if_false, Question.cut]
          rfl⟩
    obtain ⟨j, w1, hj, hE, hh, hrun⟩ := hch
    have hi1 : w1.heap[i]? = some (.mapIter (some r) clock seen clock) := by rw [hh]; exact hi
    have hil : i < w1.heap.size := lt_of_get hi1
    have hset : ∀ o' : Obj, (setObj i o').run P w1 = .ok () { w1 with heap := w1.heap.setIfInBounds i o' } := fun o' => by
      simp only [setObj, Sem.run, hi1]
    refine ⟨.tuple #[.bool true, L[j].key, L[j].val], { w1 with heap := w1.heap.setIfInBounds i (.mapIter (some r) clock (seen.push L[j].born) clock) }, ?_, ?_, .inr ⟨L[j], _, rfl, hlt (x := L[j]) (by simp), ⟨?_, h.born, _, ?_, rfl⟩, ?_, seen, L[j], ?_, hsub _ (by simp)⟩⟩
    · simp only [hrun, Array.getElem?_map, Array.getElem?_eq_getElem hj, Option.map_some, Sem.run_bind, hset, Result.andThen]
      rfl
    · have hu : Upd (one i) w1 { w1 with heap := w1.heap.setIfInBounds i (.mapIter (some r) clock (seen.push L[j].born) clock) } := ⟨rfl, rfl, rfl, by simp, fun b _ hb => by
        show (w1.heap.setIfInBounds i _)[b]? = _
        rw [Array.getElem?_setIfInBounds_ne (fun e => hb e.symm)]⟩
      exact hE.upd.trans hu (fun _ _ h => h)
    · show (w1.heap.setIfInBounds i _)[r]? = _
      rw [Array.getElem?_setIfInBounds_ne hir, hh]; exact h.map
    · show (w1.heap.setIfInBounds i _)[i]? = _
      simp [hil]
    · show (w1.heap.setIfInBounds i _)[r]? = _
      rw [Array.getElem?_setIfInBounds_ne hir, hh]; exact h.map
    · show (w1.heap.setIfInBounds i _)[i]? = _
      simp [hil]
theorem run_entry {P : Program} {w : World} {i r clock : Nat} {es : Array MapEntry} (h : Came w i r es clock) : ∃ y ∈ es.toList, (Instr.entry (.pointer (some ⟨i, 0, none⟩))).run P w = .ok (.tuple #[y.key, y.val]) w := by
  obtain ⟨hm, seen, x, hi, hx⟩ := h
  cases hf : es.find? (·.born == x.born) with
  | none =>
    exfalso
    rw [Array.find?_eq_none] at hf
    have := hf x (by simpa using hx)
    simp at this
  | some y =>
    refine ⟨y, by have := Array.mem_of_find?_eq_some hf; simpa using this, ?_⟩
    simp only [Instr.entry, getObj, Sem.run_bind, Sem.run, hi, hm, Result.andThen, Array.back?_push, bne_self_eq_false, Bool.false_eq_true, if_false, hf]
    rfl

namespace R
variable {P : Program} {ops : Array Oper} {S : Bool → Nat → Prop} {dr : Bool} {B : List Nat} {F : Env → World → Prop} {rest : List Oper} {e : Env} {w : World}
variable {d : Tmp} {od : Option Tmp} {ty : TypeId} {pos : String} {aft : Array Edge}
theorem makeMapJ {t : TypeId} (hag : dr = true → ∀ c b, S c b → b < w.heap.size)
    (h : ∀ b w', w.heap.size ≤ b → Ext w w' → MapJ w' b [] → wpR P ops S dr (kind B) F rest (upd e d (.map (some b))) w') : wpR P ops S dr (kind B) F (⟨some d, .makeMap t none, ty, pos, aft, none⟩ :: rest) e w := by
  have hE : Ext w (w.alloc (.map #[] 0)) := Upd.push _ _
  refine run2 (w' := w.alloc (.map #[] 0)) (v := .map (some w.heap.size)) rfl ?_ (fun hd c => hE.agree fun b hb => ⟨hag hd c b hb, id⟩) (h _ _ (Nat.le_refl _) hE ⟨#[], 0, by show (w.heap.push _)[w.heap.size]? = _; simp, rfl, by simp⟩)
  simp [execOp, Instr.makeMap]
theorem mapSetJ {t kt et : TypeId} {x y z : Operand} {r : Nat} {M : List (Int × Int)} {k v : Int} (hu : P.underlying t = some (.map kt et)) (hk : P.underlying kt = some (.int .i64)) (hM : MapJ w r M) (hx : ev e x = .map (some r)) (hy : ev e y = .int .i64 k) (hv : ev e z = .int .i64 v) (hag : dr = true → ¬ S false r)
    (h : ∀ w', Upd (one r) w w' → w'.heap.size = w.heap.size → MapJ w' r (mset M k v) → wpR P ops S dr (kind B) F rest (updo e od undef) w') : wpR P ops S dr (kind B) F (⟨od, .mapUpdate t x y z, ty, pos, aft, none⟩ :: rest) e w := by
  obtain ⟨w', hrun, hU, hs, ho, hM'⟩ := run_mapUpdateJ (v := v) hu hk hM (k := k)
  refine runs (w' := w') rfl ?_ (fun hd c hc => ho c (fun e => hag hd (e ▸ hc))) (h w' hU hs hM')
  simp [execOp, hx, hy, hv, hrun]
theorem lenMap {x : Operand} {t kt et : TypeId} {r : Nat} {M : List (Int × Int)} (hu : P.underlying t = some (.map kt et)) (hM : MapI w r M) (hx : ev e x = .map (some r)) (hS : S false r)
    (h : wpR P ops S dr (kind B) F rest (upd e d (.int .i64 M.length)) w) : wpR P ops S dr (kind B) F (⟨some d, .call { callee := .builtin .len, args := #[x], argTypes := #[t] }, ty, pos, aft, none⟩ :: rest) e w := by
  refine quiet _ rfl (fun w' ha => ?_) h
  obtain ⟨es, c, he, hr⟩ := hM
  have he' : w'.heap[r]? = some (.map es c) := (ha r hS).trans he
  have hl := hr.len
  simp only [Array.length_toList] at hl
  simp [execOp, resolve, invoke, builtin, Builtin.len_, underlying, hu, hx, run_getMap he', goInt, hl]
theorem range {x : Operand} {t kt et : TypeId} {r : Nat} {M : List (Int × Int)} (hu : P.underlying t = some (.map kt et)) (hM : MapJ w r M) (hx : ev e x = .map (some r)) (hag : dr = true → ∀ b, S false b → b < w.heap.size)
    (h : ∀ i w' es clock k, w.heap.size ≤ i → Ext w w' → Reads es.toList M → It w' i r es clock k → wpR P ops S dr (kind B) F rest (upd e d (.pointer (some ⟨i, 0, none⟩))) w') : wpR P ops S dr (kind B) F (⟨some d, .range t x, ty, pos, aft, none⟩ :: rest) e w := by
  obtain ⟨es, c, he, hr, hb⟩ := hM
  have hE : Ext w (w.alloc (.mapIter (some r) c #[] c)) := Upd.push _ _
  refine run3 (w' := w.alloc (.mapIter (some r) c #[] c)) (v := .pointer (some ⟨w.heap.size, 0, none⟩)) rfl ?_ (fun hd => hE.agree fun b hb => ⟨hag hd b hb, id⟩) (h _ _ es c _ (Nat.le_refl _) hE hr ⟨(hE.blk r (lt_of_get he) id).trans he, hb, #[], ?_, rfl⟩)
  · simp [execOp, hx, run_range_map w t kt et r es c hu he]
  · show (w.heap.push _)[w.heap.size]? = _; simp
theorem next {x : Operand} {i r k clock : Nat} {es : Array MapEntry} (hI : It w i r es clock k) (hx : ev e x = .pointer (some ⟨i, 0, none⟩)) (hd : dr = false)
    (h0 : ∀ w', Upd (one i) w w' → wpR P ops S dr (kind B) F rest (upd e d (.tuple #[.bool false])) w')
    (h1 : ∀ w' k' a b, Upd (one i) w w' → k' < k → It w' i r es clock k' → Came w' i r es clock → wpR P ops S dr (kind B) F rest (upd e d (.tuple #[.bool true, a, b])) w') : wpR P ops S dr (kind B) F (⟨some d, .next x false, ty, pos, aft, none⟩ :: rest) e w := by
  obtain ⟨v, w', hrun, hU, hv⟩ := run_next (P := P) (ty := ty) hI
  refine run3 (w' := w') (v := v) rfl (by simp [execOp, hx, hrun]) (fun h => by simp [hd] at h) ?_
  rcases hv with rfl | ⟨x, k', rfl, hk, hI', hC⟩
  · exact h0 w' hU
  · exact h1 w' k' _ _ hU hk hI' hC
theorem entry {x : Operand} {i r clock : Nat} {es : Array MapEntry} {M : List (Int × Int)} (hC : Came w i r es clock) (hr : Reads es.toList M) (hx : ev e x = .pointer (some ⟨i, 0, none⟩)) (hd : dr = false)
    (h : ∀ p ∈ M, wpR P ops S dr (kind B) F rest (upd e d (.tuple #[.int .i64 p.1, .int .i64 p.2])) w) : wpR P ops S dr (kind B) F (⟨some d, .entry x, ty, pos, aft, none⟩ :: rest) e w := by
  obtain ⟨y, hy, hrun⟩ := run_entry (P := P) hC
  obtain ⟨p, hp, h1, h2⟩ := hr.mem hy
  rw [h1, h2] at hrun
  exact run3 (w' := w) (v := .tuple #[.int .i64 p.1, .int .i64 p.2]) rfl (by simp [execOp, hx, hrun]) (fun h => by simp [hd] at h) (h p hp)
end R
/-- How often each number is in a list. -/
def cntM (L : List Int) : List (Int × Int) := L.foldl (fun M b => mset M b ((mget M b).getD 0 + 1)) []
theorem cntM_snoc (L : List Int) (b : Int) : cntM (L ++ [b]) = mset (cntM L) b ((mget (cntM L) b).getD 0 + 1) := by simp [cntM]
theorem mget_none {M : List (Int × Int)} {b : Int} (h : ∀ p ∈ M, p.1 ≠ b) : mget M b = none ∧ ∀ v, mset M b v = M ++ [(b, v)] := by
  induction M with
  | nil => exact ⟨rfl, fun _ => rfl⟩
  | cons p M ih =>
    obtain ⟨a, c⟩ := p
    have h1 : ¬ b = a := fun e => h (a, c) List.mem_cons_self e.symm
    obtain ⟨i1, i2⟩ := ih fun p hp => h p (List.mem_cons_of_mem _ hp)
    exact ⟨by simp [mget, h1, i1], fun v => by simp [mset, h1, i2]⟩
theorem cntM_nodup {L : List Int} (h : L.Nodup) : cntM L = L.map fun b => (b, 1) := by
  have key : ∀ (r l : List Int), (l ++ r).Nodup → r.foldl (fun M b => mset M b ((mget M b).getD 0 + 1)) (l.map fun b => (b, (1 : Int))) = (l ++ r).map fun b => (b, (1 : Int)) := by
    intro r
    induction r with
    | nil => intro l _; simp
    | cons b r ih =>
      intro l hn
      have hb : b ∉ l := fun hb => by
        rw [List.nodup_append] at hn
        exact hn.2.2 b hb b List.mem_cons_self rfl
      obtain ⟨g1, g2⟩ := mget_none (M := l.map fun b => (b, (1 : Int))) (b := b) (fun p hp => by obtain ⟨x, hx, rfl⟩ := List.mem_map.1 hp; exact fun e => hb (e ▸ hx))
      rw [List.foldl_cons, g1, g2]
      have := ih (l ++ [b]) (by simpa using hn)
      simpa using this
  have := key L [] (by simpa using h)
  simpa [cntM] using this
theorem mget_one {L : List Int} {b : Int} (h : b ∈ L) : mget (L.map fun b => (b, (1 : Int))) b = some 1 := by
  induction L with
  | nil => simp at h
  | cons a L ih =>
    by_cases hab : b = a
    · simp [mget, hab]
    · simp only [List.map_cons, mget, if_neg hab]
      exact ih (by cases h with | head => exact absurd rfl hab | tail _ h => exact h)
end Go.Proofs.Ytfdmndkoiheebaa
