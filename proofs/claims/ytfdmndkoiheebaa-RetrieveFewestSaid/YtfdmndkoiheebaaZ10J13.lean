import Derived.Test.YtfdmndkoiheebaaZ10Maps
import Derived.Laws.IdiomRangeMap
import Derived.Test.YtfdmndkoiheebaaZ10Yard3
import Derived.Test.YtfdmndkoiheebaaZ10G2
import Derived.Test.YtfdmndkoiheebaaZ10J8
namespace Go.Proofs.Ytfdmndkoiheebaa
open Go Go.RowKit
def MapJ (w : World) (r : Nat) (M : List (Int × Int)) : Prop := ∃ es clock, w.heap[r]? = some (.map es clock) ∧ Reads es.toList M ∧ ∀ x ∈ es.toList, x.born < clock
theorem MapJ.i {w : World} {r : Nat} {M : List (Int × Int)} (h : MapJ w r M) : MapI w r M := by obtain ⟨es, c, h, hr, _⟩ := h; exact ⟨es, c, h, hr⟩
theorem MapJ.up {X : Nat → Prop} {w w' : World} {r : Nat} {M : List (Int × Int)} (h : MapJ w r M) (u : Upd X w w') (hx : ¬ X r) : MapJ w' r M := by
  obtain ⟨es, c, h, hr⟩ := h; exact ⟨es, c, (u.blk r (lt_of_get h) hx).trans h, hr⟩
theorem MapJ.ext {w w' : World} {r : Nat} {M : List (Int × Int)} (h : MapJ w r M) (u : Ext w w') : MapJ w' r M := h.up u id
theorem MapJ.upT {w w' : World} {r b : Nat} {M : List (Int × Int)} {ty : TypeId} {cs : Array Value} (h : MapJ w r M) (u : Upd (one b) w w') (hb : Blk w b ty cs) (_ : 1 = 1) : MapJ w' r M := h.up u (h.i.ne hb)
theorem Reads.len {es : List MapEntry} {M : List (Int × Int)} (h : Reads es M) : es.length = M.length := by simpa using congrArg List.length h
structure It (w : World) (i r : Nat) (es : Array MapEntry) (clock k : Nat) : Prop where
  map : w.heap[r]? = some (.map es clock)
  born : ∀ x ∈ es.toList, x.born < clock
  it : ∃ seen, w.heap[i]? = some (.mapIter (some r) clock seen clock) ∧ (leftOf es seen).size = k
def Came (w : World) (i r : Nat) (es : Array MapEntry) (clock : Nat) : Prop := w.heap[r]? = some (.map es clock) ∧ ∃ (seen : Array Nat) (x : MapEntry), w.heap[i]? = some (.mapIter (some r) clock (seen.push x.born) clock) ∧ x ∈ es.toList
theorem It.up {X : Nat → Prop} {w w' : World} {i r k clock : Nat} {es : Array MapEntry} (h : It w i r es clock k) (u : Upd X w w') (h1 : ¬ X i) (h2 : ¬ X r) : It w' i r es clock k := by
  obtain ⟨seen, h3, h4⟩ := h.it
  exact ⟨(u.blk r (lt_of_get h.map) h2).trans h.map, h.born, seen, (u.blk i (lt_of_get h3) h1).trans h3, h4⟩
theorem It.ext {w w' : World} {i r k clock : Nat} {es : Array MapEntry} (h : It w i r es clock k) (u : Ext w w') : It w' i r es clock k := h.up u id id
theorem left_lt {es : Array MapEntry} {seen : Array Nat} {x : MapEntry} (hx : x ∈ (leftOf es seen).toList) : (leftOf es (seen.push x.born)).size < (leftOf es seen).size := by
  have e : ∀ s : Array Nat, (leftOf es s).toList = es.toList.filter fun e => !s.contains e.born := fun s => by simp [leftOf]
  rw [← Array.length_toList, ← Array.length_toList, e, e]
  rw [e] at hx
  have h1 : es.toList.filter (fun e => !(seen.push x.born).contains e.born) = (es.toList.filter fun e => !seen.contains e.born).filter (fun e => e.born != x.born) := by
    rw [List.filter_filter]
    refine List.filter_congr fun y _ => ?_
    by_cases h : y.born = x.born <;> simp [h]
  rw [h1]
  rcases Nat.lt_or_ge ((es.toList.filter fun e => !seen.contains e.born).filter (fun e => e.born != x.born)).length (es.toList.filter fun e => !seen.contains e.born).length with h | h
  · exact h
  · exfalso
    have := List.length_filter_eq_length_iff.1 (Nat.le_antisymm (List.length_filter_le _ _) h) x hx
    simp at this
theorem run_next {P : Program} {w : World} {i r k clock : Nat} {es : Array MapEntry} {ty : TypeId} (h : It w i r es clock k) :
    ∃ v w', (Instr.next (.pointer (some ⟨i, 0, none⟩)) false ty).run P w = .ok v w' ∧ Upd (one i) w w' ∧ (v = .tuple #[.bool false] ∨ ∃ (x : MapEntry) (k' : Nat), v = .tuple #[.bool true, x.key, x.val] ∧ k' < k ∧ It w' i r es clock k' ∧ Came w' i r es clock) := by
  obtain ⟨seen, hi, rfl⟩ := h.it
  have hir : i ≠ r := fun e => by subst e; rw [h.map] at hi; cases hi
  have ht := next_test_false seen es clock clock h.born (Nat.le_refl _)
  have hmem : ∀ x ∈ (leftOf es seen).toList, x.born < clock := fun x hx => h.born x (by unfold leftOf at hx; simp at hx ⊢; exact hx.1)
  have hsub : ∀ x ∈ (leftOf es seen).toList, x ∈ es.toList := fun x hx => by unfold leftOf at hx; simp at hx ⊢; exact hx.1
  have hlt := fun {x : MapEntry} (hx : x ∈ (leftOf es seen).toList) => left_lt hx
  simp only [Instr.next, getObj, Sem.run_bind, Sem.run, hi, h.map, Result.andThen, ht, Bool.false_eq_true, if_false]
  show ∃ v w', _
  have e0 : Array.filter (fun e => !seen.contains e.born) es = leftOf es seen := rfl
  rw [e0]
  generalize hL : leftOf es seen = L at hmem hsub hlt ⊢
  have e1 : L.filter (fun x => decide (x.born < clock)) = L := Array.filter_eq_self.2 (fun x hx => by simpa using hmem x (by simpa using hx))
  have e2 : L.filter (fun x => decide (x.born ≥ clock)) = #[] := by
    rw [Array.filter_eq_empty_iff]
    intro x hx
    have := hmem x (by simpa using hx)
    simp
    omega
  simp only [e1, e2, Array.append_empty]
  by_cases h0 : L.size = 0
  · have : L = #[] := Array.eq_empty_of_size_eq_zero h0
    subst this
    refine ⟨.tuple #[.bool false], w, ?_, Upd.refl _, .inl rfl⟩
    simp [choose, Sem.run, Question.forced]
  · have hne : L.isEmpty = false := by simp [Array.isEmpty, h0]
    simp only [hne, Bool.false_eq_true, if_false, Array.empty_append, Array.size_map]
    have hch : ∃ (j : Nat) (w1 : World), j < L.size ∧ Ext w w1 ∧ w1.heap = w.heap ∧ (choose (Question.mapNext L.size)).run P w = .ok j w1 := by
      by_cases hf : L.size ≤ 1
      · exact ⟨0, w, by omega, Upd.refl _, rfl, by simp [choose, Sem.run, Question.forced, hf]⟩
      · exact ⟨_, w.drew, Nat.mod_lt _ (by omega), Upd.drew _, rfl, by
          simp only [choose, Sem.run, Question.forced, decide_eq_true_eq, hf, if_false, Question.cut]
          rfl⟩
    obtain ⟨j, w1, hj, hE, hh, hrun⟩ := hch
    have hi1 : w1.heap[i]? = some (.mapIter (some r) clock seen clock) := by rw [hh]; exact hi
    have hil : i < w1.heap.size := lt_of_get hi1
    have hset : ∀ o' : Obj, (setObj i o').run P w1 = .ok () { w1 with heap := w1.heap.setIfInBounds i o' } := fun o' => by
      simp only [setObj, Sem.run, hi1]
    refine ⟨.tuple #[.bool true, L[j].key, L[j].val], { w1 with heap := w1.heap.setIfInBounds i (.mapIter (some r) clock (seen.push L[j].born) clock) }, ?_, ?_, .inr ⟨L[j], _, rfl, hlt (x := L[j]) (by simp), ⟨?_, h.born, _, ?_, rfl⟩, ?_, seen, L[j], ?_, hsub _ (by simp)⟩⟩
    · simp only [hrun, Array.getElem?_map, Array.getElem?_eq_getElem hj, Option.map_some, Sem.run_bind, hset, Result.andThen]
      rfl
    · have hu : Upd (one i) w1 { w1 with heap := w1.heap.setIfInBounds i (.mapIter (some r) clock (seen.push L[j].born) clock) } := ⟨rfl, rfl, rfl, by simp, fun b _ hb => by
        show (w1.heap.setIfInBounds i _)[b]? = _
        rw [Array.getElem?_setIfInBounds_ne (fun e => hb e.symm)]⟩
      exact hE.upd.trans hu (fun _ _ h => h)
    · show (w1.heap.setIfInBounds i _)[r]? = _
      rw [Array.getElem?_setIfInBounds_ne hir, hh]; exact h.map
    · show (w1.heap.setIfInBounds i _)[i]? = _
      simp [hil]
    · show (w1.heap.setIfInBounds i _)[r]? = _
      rw [Array.getElem?_setIfInBounds_ne hir, hh]; exact h.map
    · show (w1.heap.setIfInBounds i _)[i]? = _
      simp [hil]
namespace R
variable {P : Program} {ops : Array Oper} {S : Bool → Nat → Prop} {dr : Bool} {B : List Nat} {F : Env → World → Prop} {rest : List Oper} {e : Env} {w : World}
variable {d : Tmp} {od : Option Tmp} {ty : TypeId} {pos : String} {aft : Array Edge}
theorem range {x : Operand} {t kt et : TypeId} {r : Nat} {M : List (Int × Int)} (hu : P.underlying t = some (.map kt et)) (hM : MapJ w r M) (hx : ev e x = .map (some r)) (hag : dr = true → ∀ b, S false b → b < w.heap.size)
    (h : ∀ i w' es clock k, w.heap.size ≤ i → Ext w w' → Reads es.toList M → It w' i r es clock k → wpR P ops S dr (kind B) F rest (upd e d (.pointer (some ⟨i, 0, none⟩))) w') : wpR P ops S dr (kind B) F (⟨some d, .range t x, ty, pos, aft, none⟩ :: rest) e w := by
  obtain ⟨es, c, he, hr, hb⟩ := hM
  have hE : Ext w (w.alloc (.mapIter (some r) c #[] c)) := Upd.push _ _
  refine run3 (w' := w.alloc (.mapIter (some r) c #[] c)) (v := .pointer (some ⟨w.heap.size, 0, none⟩)) rfl ?_ (fun hd => hE.agree fun b hb => ⟨hag hd b hb, id⟩) (h _ _ es c _ (Nat.le_refl _) hE hr ⟨(hE.blk r (lt_of_get he) id).trans he, hb, #[], ?_, rfl⟩)
  · simp [execOp, hx, run_range_map w t kt et r es c hu he]
  · show (w.heap.push _)[w.heap.size]? = _; simp
theorem next {x : Operand} {i r k clock : Nat} {es : Array MapEntry} (hI : It w i r es clock k) (hx : ev e x = .pointer (some ⟨i, 0, none⟩)) (hd : dr = false)
    (h0 : ∀ w', Upd (one i) w w' → wpR P ops S dr (kind B) F rest (upd e d (.tuple #[.bool false])) w')
    (h1 : ∀ w' k' a b, Upd (one i) w w' → k' < k → It w' i r es clock k' → Came w' i r es clock → wpR P ops S dr (kind B) F rest (upd e d (.tuple #[.bool true, a, b])) w') : wpR P ops S dr (kind B) F (⟨some d, .next x false, ty, pos, aft, none⟩ :: rest) e w := by
  obtain ⟨v, w', hrun, hU, hv⟩ := run_next (P := P) (ty := ty) hI
  refine run3 (w' := w') (v := v) rfl (by simp [execOp, hx, hrun]) (fun h => by simp [hd] at h) ?_
  rcases hv with rfl | ⟨x, k', rfl, hk, hI', hC⟩
  · exact h0 w' hU
  · exact h1 w' k' _ _ hU hk hI' hC
end R
end Go.Proofs.Ytfdmndkoiheebaa

namespace Go.Proofs.Ytfdmndkoiheebaa
open Go Go.RowKit
theorem madeE (w : World) {vl : Value} {st ht n0 H : Nat} {ls : List Nat} (hl : U8s w vl ls) (hll : ls.length ≤ 9223372036854775807) (hls : ∀ x ∈ ls, x < 256) (hn : 1 + st % 6 = n0) (hH : 1 + ht % 6 = H) :
    Calls Try.prog 22 #[.int .u8 st, .int .u8 ht, vl] w (Ret fun r w' => Ext w w' ∧ ∃ v us xss, r = .agg #[v, .int .i64 H] ∧ MS w w' v us xss ∧ MadeP xss n0 H (min ls.length 20)) := by
  subst hn hH; exact made w hl hll hls
end Go.Proofs.Ytfdmndkoiheebaa

namespace Go.Proofs.Ytfdmndkoiheebaa
open Go Go.RowKit
theorem E.cutM {md : Mode} {P : Program} {N : Nat} {Q : Exit → Env → World → Prop} {next : Env → World → Prop} {e : Env} {w : World} {c : Code} (M : Env → World → Prop) (h : wpE md P N c (E.thn M Q) e w) (h2 : ∀ e w, M e w → next e w) : wpE md P N c (E.thn next Q) e w :=
  E.mono (fun x e w q => by cases x <;> first | exact h2 _ _ q | exact q) h
theorem MO.set {w w' : World} {v u : Value} {us : List Value} {xss : List (List Int)} {xs : List Int} {i : Nat} (h : MO w v us xss) (hi : i < xss.length) (hx : SInts w u xs) (hU : Upd (fun b => vblk v = some b) w w') (hO : Sl w' 35 1 v xss.length (us.set i u)) : MO w' v (us.set i u) (xss.set i xs) := by
  have hl := h.outer.len
  refine ⟨by rw [List.length_set]; exact hO, fun j hj => ?_⟩
  rw [List.length_set] at hj
  by_cases hij : i = j
  · subst hij
    exact ⟨u, by rw [List.getElem?_set_self (by omega)], by rw [List.getElem_set_self]; exact hx.upS hU h.outer (by decide)⟩
  · obtain ⟨y, h1, h2⟩ := h.elems j hj
    exact ⟨y, by rw [List.getElem?_set_ne hij]; exact h1, by rw [List.getElem_set_ne hij]; exact h2.upS hU h.outer (by decide)⟩
section
variable {xss : List (List Int)} {h : Int}
end
end Go.Proofs.Ytfdmndkoiheebaa

namespace Go.Proofs.Ytfdmndkoiheebaa
open Go Go.RowKit
theorem It.ne {w : World} {i r k clock b : Nat} {es : Array MapEntry} {ty : TypeId} {cs : Array Value} (h : It w i r es clock k) (hb : Blk w b ty cs) : b ≠ i := fun e => by
  obtain ⟨seen, h1, _⟩ := h.it
  subst e
  unfold Blk at hb
  rw [hb] at h1; cases h1
end Go.Proofs.Ytfdmndkoiheebaa

namespace Go.Proofs.Ytfdmndkoiheebaa
open Go Go.RowKit
theorem playL_append {H : Nat} : ∀ (ms ms' : List (Int × Int)) (xss : List (List Int)) (i : Nat), (playL H xss i ms).2.2 = 0 → playL H xss i (ms ++ ms') = playL H (playL H xss i ms).1 (i + ms.length) ms' := by
  intro ms
  induction ms with
  | nil => intro ms' xss i _; simp [playL]
  | cons m ms ih =>
    intro ms' xss i h
    simp only [playL, List.cons_append] at h ⊢
    split at h
    · rename_i hs
      rw [if_pos hs, if_pos hs, ih ms' _ _ h, List.length_cons]
      congr 1; omega
    · rename_i hs; exact absurd h hs
theorem playL_idx {H : Nat} : ∀ (ms : List (Int × Int)) (xss : List (List Int)) (i j : Nat), (playL H xss i ms).2.2 = 0 → playL H xss j ms = playL H xss i ms := by
  intro ms
  induction ms with
  | nil => intro xss i j _; rfl
  | cons m ms ih =>
    intro xss i j h
    simp only [playL] at h ⊢
    split at h
    · rename_i hs
      rw [if_pos hs, if_pos hs]
      exact ih _ _ _ h
    · rename_i hs; exact absurd h hs
theorem shiftL_mk {xss : List (List Int)} {H a b : Nat} (ha : a < xss.length) (hb : b < xss.length) (hab : a ≠ b) (hl : 0 < xss[a].length) (hn : xss[b].length ≠ H) :
    shiftL xss H a b = ((xss.set b (xss[b] ++ [xss[a][xss[a].length - 1]])).set a xss[a].dropLast, 0) := by
  have ga : xss.getD a [] = xss[a] := by simp [ha]
  have gb : xss.getD b [] = xss[b] := by simp [hb]
  simp only [shiftL]
  rw [if_neg (by omega), if_neg (by omega), Int.toNat_natCast, Int.toNat_natCast, ga, gb, if_neg (by omega), if_neg hn]
  rw [List.getD_eq_getElem?_getD, List.getElem?_eq_getElem (show xss[a].length - 1 < xss[a].length by omega)]
  rfl
theorem shiftL_back {xss : List (List Int)} {H : Nat} {f t : Int} (hR : RightP xss H) (h : (shiftL xss H f t).2 = 0) : shiftL (shiftL xss H f t).1 H t f = (xss, 0) := by
  obtain ⟨a, b, ha, hb, hl, rfl, rfl, hab, hn, he⟩ := shiftL_ok h
  have hxa := hR.2.2.2.2.1 _ (List.getElem_mem ha)
  generalize hx : xss[a][xss[a].length - 1] = x at he
  have hdl : xss[a].dropLast ++ [x] = xss[a] := by
    rw [← hx]
    have := List.dropLast_concat_getLast (l := xss[a]) (by intro e; simp [e] at hl)
    rw [List.getLast_eq_getElem] at this
    exact this
  rw [he]
  generalize hy : (xss.set b (xss[b] ++ [x])).set a xss[a].dropLast = ys
  have hyl : ys.length = xss.length := by rw [← hy]; simp
  have hya : ys[a]'(by omega) = xss[a].dropLast := by simp only [← hy]; simp
  have hyb : ys[b]'(by omega) = xss[b] ++ [x] := by
    simp only [← hy]
    rw [List.getElem_set_ne hab, List.getElem_set_self]
  rw [shiftL_mk (a := b) (b := a) (by omega) (by omega) (Ne.symm hab) (by rw [hyb]; simp) (by rw [hya, List.length_dropLast]; omega)]
  congr 1
  have hlast : (ys[b]'(by omega))[(ys[b]'(by omega)).length - 1]'(by rw [hyb]; simp) = x := by
    have : ∀ (l : List Int) (h : l = xss[b] ++ [x]) (h2 : l.length - 1 < l.length), l[l.length - 1] = x := by intro l h h2; subst h; simp
    exact this _ hyb _
  rw [hlast, hya, hyb, List.dropLast_concat, hdl]
  apply List.ext_getElem?
  intro i
  rw [← hy]
  by_cases hib : b = i
  · subst hib
    rw [List.getElem?_set_self (by simp; exact hb), List.getElem?_eq_getElem hb]
  · rw [List.getElem?_set_ne hib]
    by_cases hia : a = i
    · subst hia
      rw [List.getElem?_set_self (by simp; exact ha), List.getElem?_eq_getElem ha]
    · rw [List.getElem?_set_ne hia, List.getElem?_set_ne hia, List.getElem?_set_ne hib]
structure MvP (xss : List (List Int)) (H : Nat) (nw : List (List Int)) (ds bs : List (Int × Int)) : Prop where
  right : RightP nw H
  play : playL H xss 0 ds = (nw, 0, 0)
  back : playL H nw 0 bs = (xss, 0, 0)
  perm : nw.flatten.Perm xss.flatten
  len : nw.length = xss.length
  same : bs.length = ds.length
theorem MvP.start {xss : List (List Int)} {H : Nat} (hR : RightP xss H) : MvP xss H xss [] [] := ⟨hR, rfl, rfl, List.Perm.refl _, rfl, rfl⟩
theorem MvP.step {xss nw : List (List Int)} {H : Nat} {ds bs : List (Int × Int)} {m : Int × Int} (h : MvP xss H nw ds bs) (hs : (shiftL nw H m.1 m.2).2 = 0) : MvP xss H (shiftL nw H m.1 m.2).1 (ds ++ [m]) ((m.2, m.1) :: bs) := by
  refine ⟨h.right.shift hs, ?_, ?_, (shiftL_perm hs).trans h.perm, by rw [shiftL_len]; exact h.len, by simp [h.same]⟩
  · rw [playL_append ds [m] xss 0 (by rw [h.play]), h.play]
    simp [playL, hs]
  · have hb := shiftL_back h.right hs
    simp only [playL, hb, if_true]
    rw [playL_idx bs nw 0 (0 + 1) (by rw [h.back]), h.back]
theorem PY.mo {w : World} {v : Value} {H ba : Nat} {us : List Value} {cur : Array Value} {xss : List (List Int)} (h : PY w v H ba us cur xss) : MO w v us xss := ⟨h.outer, fun i hi => ⟨_, (h.elems i hi).1, h.row i hi⟩⟩
theorem YO.mo {w w' : World} {v : Value} {h : Int} {xss : List (List Int)} (y : YO w w' v h xss) : ∃ us, MO w' v us xss := by
  rcases y with ⟨rfl, _, rfl⟩ | ⟨H, ba, us, cur, _, hP, _⟩
  · exact ⟨[], MO.nil _⟩
  · exact ⟨us, hP.mo⟩
theorem MO.upS {w w' : World} {v x : Value} {us : List Value} {xss : List (List Int)} {ty' : TypeId} {k' m : Nat} {ds : List Value} (h : MO w v us xss) (u : Upd (fun b => vblk x = some b) w w') (hx : Sl w ty' k' x m ds) (hne : 35 ≠ ty' ∧ 3 ≠ ty') : MO w' v us xss :=
  ⟨h.outer.upS u hx hne.1, fun i hi => by obtain ⟨y, h1, h2⟩ := h.elems i hi; exact ⟨y, h1, h2.upS u hx hne.2⟩⟩
end Go.Proofs.Ytfdmndkoiheebaa

namespace Go.Proofs.Ytfdmndkoiheebaa
open Go Go.RowKit
section
variable {xss ys : List (List Int)} {H nx n' : Nat} {ord : List Int} {s : Int × Int × Int}
theorem doL_shift2 {a : Nat} {t : Int} (hR : RightP xss (H : Int)) (ha : a < xss.length) (hl : 0 < xss[a].length) (ht : t ≠ -1) :
    doL xss H ord nx (xss[a][xss[a].length - 1], (a : Int), t) = if (shiftL xss H a t).2 = 0 then some ((shiftL xss H a t).1, nx) else none := by
  have h1 := hR.pos ha (show xss[a].length - 1 < xss[a].length by omega)
  have hga : xss.getD a [] = xss[a] := by simp [ha]
  rcases (show (t < 0 ∨ (xss.length : Int) ≤ t) ∨ (0 ≤ t ∧ t < xss.length) by omega) with h | h
  · have e1 : (shiftL xss H a t).2 ≠ 0 := by unfold shiftL; rw [if_pos (by omega)]; simp
    rw [if_neg e1]
    simp only [doL]
    rw [topL_at ha hl, if_neg (by omega), if_neg ht, if_pos (by omega)]
  · obtain ⟨c, rfl⟩ : ∃ c : Nat, t = c := ⟨t.toNat, by omega⟩
    have hc : c < xss.length := by omega
    have hgc : xss.getD c [] = xss[c] := by simp [hc]
    by_cases hca : c = a
    · have e1 : (shiftL xss H a c).2 ≠ 0 := by unfold shiftL; rw [if_neg (by omega), if_pos (by omega)]; simp
      rw [if_neg e1]
      simp only [doL]
      rw [topL_at ha hl, if_neg (by omega), if_neg ht, if_pos (by omega)]
    · by_cases hf : xss[c].length = H
      · have e1 : (shiftL xss H a c).2 ≠ 0 := by unfold shiftL; rw [if_neg (by omega), if_neg (by omega), Int.toNat_natCast, Int.toNat_natCast, hga, hgc, if_neg (by omega), if_pos hf]; simp
        rw [if_neg e1]
        simp only [doL]
        rw [topL_at ha hl, if_neg (by omega), if_neg ht, if_pos (by rw [Int.toNat_natCast, hgc]; exact .inr (.inr (.inr hf)))]
      · obtain ⟨q1, q2⟩ := doL_shift (ord := ord) (nx := nx) hR ha hl hc hca hf
        rw [if_pos q1, q2]
theorem doL_take {a : Nat} (hR : RightP xss (H : Int)) (ha : a < xss.length) (hl : 0 < xss[a].length) (b : Int) (hb : xss[a][xss[a].length - 1] = b) :
    doL xss H ord nx (b, (a : Int), -1) = if b = ord.getD nx 0 then some (xss.set a xss[a].dropLast, nx + 1) else none := by
  have h1 := hR.pos ha (show xss[a].length - 1 < xss[a].length by omega)
  have hga : xss.getD a [] = xss[a] := by simp [ha]
  simp only [doL]
  rw [topL_at ha hl, if_neg (by omega), if_pos trivial, Int.toNat_natCast, hga]
  by_cases hq : b = ord.getD nx 0
  · have : nx ≠ ord.length := fun e => by
      rw [e] at hq; simp at hq; omega
    rw [if_pos hq, if_neg (by omega)]
  · rw [if_neg hq, if_pos (.inr (fun e => hq e.symm))]
theorem doL_kind (h : doL xss H ord nx s = some (ys, n')) : (s.2.2 = -1 ∧ n' = nx + 1) ∨ (0 ≤ s.2.2 ∧ n' = nx) := by
  unfold doL at h
  split at h
  · cases h
  · split at h
    · split at h
      · cases h
      · rename_i h2 _; obtain ⟨rfl, rfl⟩ := Prod.mk.inj (Option.some.inj h); exact .inl ⟨h2, rfl⟩
    · split at h
      · cases h
      · obtain ⟨rfl, rfl⟩ := Prod.mk.inj (Option.some.inj h); exact .inr ⟨by omega, rfl⟩
theorem doL_right (hR : RightP xss (H : Int)) (h : doL xss H ord nx s = some (ys, n')) : RightP ys (H : Int) := by
  obtain ⟨b, f, t⟩ := s
  have hb : ¬ (b < 1 ∨ topL xss f ≠ b) := fun hc => by simp only [doL] at h; rw [if_pos hc] at h; cases h
  obtain ⟨a, ha, hl, rfl, hlast⟩ := topL_pos (show topL xss f = b by omega) (by omega)
  by_cases ht : t = -1
  · subst ht
    rw [doL_take hR ha hl _ hlast] at h
    split at h
    · obtain ⟨rfl, rfl⟩ := Prod.mk.inj (Option.some.inj h)
      have := (hR.taken ha (show xss[a].length - 1 < xss[a].length by omega) (by omega)).1
      rw [List.dropLast_eq_take]; exact this
    · cases h
  · rw [← hlast, doL_shift2 hR ha hl ht] at h
    split at h
    · rename_i hs
      obtain ⟨rfl, rfl⟩ := Prod.mk.inj (Option.some.inj h)
      exact hR.shift hs
    · cases h
end
end Go.Proofs.Ytfdmndkoiheebaa

namespace Go.Proofs.Ytfdmndkoiheebaa
open Go Go.RowKit
def YM (w wr : World) (v : Value) (xss : List (List Int)) : Prop := (∃ us, Mat w v us xss) ∨ ∃ us, MO wr v us xss
theorem YM.ext {w wr w' : World} {v : Value} {xss : List (List Int)} (h : YM w wr v xss) (u : Ext wr w') : YM w w' v xss := by
  rcases h with h | ⟨us, h⟩
  · exact .inl h
  · exact .inr ⟨us, h.ext u⟩
theorem YM.upT {w wr w' : World} {v : Value} {xss : List (List Int)} {b : Nat} {cs : Array Value} {ty : TypeId} (h : YM w wr v xss) (u : Upd (Ytfdmndkoiheebaa.one b) wr w') (hb : Blk wr b ty cs) (hne : 35 ≠ ty ∧ 3 ≠ ty) : YM w w' v xss := by
  rcases h with h | ⟨us, h⟩
  · exact .inl h
  · exact .inr ⟨us, h.upT u hb hne⟩
theorem YM.mat {w wr : World} {v : Value} {xss : List (List Int)} (h : YM w wr v xss) (hE : Ext w wr) : ∃ us, Mat wr v us xss := by
  rcases h with ⟨us, h⟩ | ⟨us, h⟩
  · exact ⟨us, h.ext hE⟩
  · exact ⟨us, h.mat⟩
theorem YM.one' {w wr : World} {v : Value} {xss : List (List Int)} (h : YM w wr v xss) : v.oneCell' = true := by
  rcases h with ⟨us, h⟩ | ⟨us, h⟩
  · exact h.row.one
  · exact h.outer.one
theorem stepsC_at2 {ss : List (Int × Int × Int)} {i : Nat} (h : i < ss.length) : (stepsC ss)[i * 3 + 2]? = some (.int .i64 ss[i].2.2) := by
  have h1 := congrArg (fun l => l[2]?) (steps_take h)
  simpa [List.getElem?_take, List.getElem?_drop] using h1
end Go.Proofs.Ytfdmndkoiheebaa
