import Derived.Test.YtfdmndkoiheebaaZ12Maps
import Derived.Laws.IdiomRangeMap
import Derived.Test.YtfdmndkoiheebaaZ12Yard2
import Derived.Test.YtfdmndkoiheebaaZ12G2
import Derived.Test.YtfdmndkoiheebaaZ12J8
import Derived.Test.YtfdmndkoiheebaaZ12Yard
namespace Go.Proofs.Ytfdmndkoiheebaa
open Go Go.RowKit
def MapJ (w : World) (r : Nat) (M : List (Int × Int)) : Prop := ∃ es clock, w.heap[r]? = some (.map es clock) ∧ Reads es.toList M ∧ ∀ x ∈ es.toList, x.born < clock
theorem MapJ.i {w : World} {r : Nat} {M : List (Int × Int)} (h : MapJ w r M) : MapI w r M := by obtain ⟨es, c, h, hr, _⟩ := h; exact ⟨es, c, h, hr⟩
theorem MapJ.up {X : Nat → Prop} {w w' : World} {r : Nat} {M : List (Int × Int)} (h : MapJ w r M) (u : Upd X w w') (hx : ¬ X r) : MapJ w' r M := by
  obtain ⟨es, c, h, hr⟩ := h; exact ⟨es, c, (u.blk r (lt_of_get h) hx).trans h, hr⟩
theorem MapJ.ext {w w' : World} {r : Nat} {M : List (Int × Int)} (h : MapJ w r M) (u : Ext w w') : MapJ w' r M := h.up u id
theorem MapJ.upT {w w' : World} {r b : Nat} {M : List (Int × Int)} {ty : TypeId} {cs : Array Value} (h : MapJ w r M) (u : Upd (one b) w w') (hb : Blk w b ty cs) (_ : 1 = 1) : MapJ w' r M := h.up u (h.i.ne hb)
theorem Reads.len {es : List MapEntry} {M : List (Int × Int)} (h : Reads es M) : es.length = M.length := by simpa using congrArg List.length h
structure It (w : World) (i r : Nat) (es : Array MapEntry) (clock k : Nat) : Prop where
  map : w.heap[r]? = some (.map es clock)
  born : ∀ x ∈ es.toList, x.born < clock
  it : ∃ seen, w.heap[i]? = some (.mapIter (some r) clock seen clock) ∧ (leftOf es seen).size = k
def Came (w : World) (i r : Nat) (es : Array MapEntry) (clock : Nat) : Prop := w.heap[r]? = some (.map es clock) ∧ ∃ (seen : Array Nat) (x : MapEntry), w.heap[i]? = some (.mapIter (some r) clock (seen.push x.born) clock) ∧ x ∈ es.toList
theorem It.up {X : Nat → Prop} {w w' : World} {i r k clock : Nat} {es : Array MapEntry} (h : It w i r es clock k) (u : Upd X w w') (h1 : ¬ X i) (h2 : ¬ X r) : It w' i r es clock k := by
  obtain ⟨seen, h3, h4⟩ := h.it
  exact ⟨(u.blk r (lt_of_get h.map) h2).trans h.map, h.born, seen, (u.blk i (lt_of_get h3) h1).trans h3, h4⟩
theorem It.ext {w w' : World} {i r k clock : Nat} {es : Array MapEntry} (h : It w i r es clock k) (u : Ext w w') : It w' i r es clock k := h.up u id id
theorem left_lt {es : Array MapEntry} {seen : Array Nat} {x : MapEntry} (hx : x ∈ (leftOf es seen).toList) : (leftOf es (seen.push x.born)).size < (leftOf es seen).size := by
  have e : ∀ s : Array Nat, (leftOf es s).toList = es.toList.filter fun e => !s.contains e.born := fun s => by simp [leftOf]
  rw [← Array.length_toList, ← Array.length_toList, e, e]
  rw [e] at hx
  have h1 : es.toList.filter (fun e => !(seen.push x.born).contains e.born) = (es.toList.filter fun e => !seen.contains e.born).filter (fun e => e.born != x.born) := by
    rw [List.filter_filter]
    refine List.filter_congr fun y _ => ?_
    by_cases h : y.born = x.born <;> simp [h]
  rw [h1]
  rcases Nat.lt_or_ge ((es.toList.filter fun e => !seen.contains e.born).filter (fun e => e.born != x.born)).length (es.toList.filter fun e => !seen.contains e.born).length with h | h
  · exact h
  · exfalso
    have := List.length_filter_eq_length_iff.1 (Nat.le_antisymm (List.length_filter_le _ _) h) x hx
    simp at this
theorem run_next {P : Program} {w : World} {i r k clock : Nat} {es : Array MapEntry} {ty : TypeId} (h : It w i r es clock k) :
    ∃ v w', (Instr.next (.pointer (some ⟨i, 0, none⟩)) false ty).run P w = .ok v w' ∧ Upd (one i) w w' ∧ (v = .tuple #[.bool false] ∨ ∃ (x : MapEntry) (k' : Nat), v = .tuple #[.bool true, x.key, x.val] ∧ k' < k ∧ It w' i r es clock k' ∧ Came w' i r es clock) := by
  obtain ⟨seen, hi, rfl⟩ := h.it
  have hir : i ≠ r := fun e => by subst e; rw [h.map] at hi; cases hi
  have ht := next_test_false seen es clock clock h.born (Nat.le_refl _)
  have hmem : ∀ x ∈ (leftOf es seen).toList, x.born < clock := fun x hx => h.born x (by unfold leftOf at hx; simp at hx ⊢; exact hx.1)
  have hsub : ∀ x ∈ (leftOf es seen).toList, x ∈ es.toList := fun x hx => by unfold leftOf at hx; simp at hx ⊢; exact hx.1
  have hlt := fun {x : MapEntry} (hx : x ∈ (leftOf es seen).toList) => left_lt hx
  simp only [Instr.next, getObj, Sem.run_bind, Sem.run, hi, h.map, Result.andThen, ht, Bool.false_eq_true, if_false]
  show ∃ v w', _
  have e0 : Array.filter (fun e => !seen.contains e.born) es = leftOf es seen := rfl
  rw [e0]
  generalize hL : leftOf es seen = L at hmem hsub hlt ⊢
  have e1 : L.filter (fun x => decide (x.born < clock)) = L := Array.filter_eq_self.2 (fun x hx => by simpa using hmem x (by simpa using hx))
  have e2 : L.filter (fun x => decide (x.born ≥ clock)) = #[] := by
    rw [Array.filter_eq_empty_iff]
    intro x hx
    have := hmem x (by simpa using hx)
    simp
    omega
  simp only [e1, e2, Array.append_empty]
  by_cases h0 : L.size = 0
  · have : L = #[] := Array.eq_empty_of_size_eq_zero h0
    subst this
    refine ⟨.tuple #[.bool false], w, ?_, Upd.refl _, .inl rfl⟩
    simp [choose, Sem.run, Question.forced]
  · have hne : L.isEmpty = false := by simp [Array.isEmpty, h0]
    simp only [hne, Bool.false_eq_true, if_false, Array.empty_append, Array.size_map]
    have hch : ∃ (j : Nat) (w1 : World), j < L.size ∧ Ext w w1 ∧ w1.heap = w.heap ∧ (choose (Question.mapNext L.size)).run P w = .ok j w1 := by
      by_cases hf : L.size ≤ 1
      · exact ⟨0, w, by omega, Upd.refl _, rfl, by simp [choose, Sem.run, Question.forced, hf]⟩
      · exact ⟨_, w.drew, Nat.mod_lt _ (by omega), Upd.drew _, rfl, by
          simp only [choose, Sem.run, Question.forced, decide_eq_true_eq, hf, if_false, Question.cut]
          rfl⟩
    obtain ⟨j, w1, hj, hE, hh, hrun⟩ := hch
    have hi1 : w1.heap[i]? = some (.mapIter (some r) clock seen clock) := by rw [hh]; exact hi
    have hil : i < w1.heap.size := lt_of_get hi1
    have hset : ∀ o' : Obj, (setObj i o').run P w1 = .ok () { w1 with heap := w1.heap.setIfInBounds i o' } := fun o' => by
      simp only [setObj, Sem.run, hi1]
    refine ⟨.tuple #[.bool true, L[j].key, L[j].val], { w1 with heap := w1.heap.setIfInBounds i (.mapIter (some r) clock (seen.push L[j].born) clock) }, ?_, ?_, .inr ⟨L[j], _, rfl, hlt (x := L[j]) (by simp), ⟨?_, h.born, _, ?_, rfl⟩, ?_, seen, L[j], ?_, hsub _ (by simp)⟩⟩
    · simp only [hrun, Array.getElem?_map, Array.getElem?_eq_getElem hj, Option.map_some, Sem.run_bind, hset, Result.andThen]
      rfl
    · have hu : Upd (one i) w1 { w1 with heap := w1.heap.setIfInBounds i (.mapIter (some r) clock (seen.push L[j].born) clock) } := ⟨rfl, rfl, rfl, by simp, fun b _ hb => by
        show (w1.heap.setIfInBounds i _)[b]? = _
        rw [Array.getElem?_setIfInBounds_ne (fun e => hb e.symm)]⟩
      exact hE.upd.trans hu (fun _ _ h => h)
    · show (w1.heap.setIfInBounds i _)[r]? = _
      rw [Array.getElem?_setIfInBounds_ne hir, hh]; exact h.map
    · show (w1.heap.setIfInBounds i _)[i]? = _
      simp [hil]
    · show (w1.heap.setIfInBounds i _)[r]? = _
      rw [Array.getElem?_setIfInBounds_ne hir, hh]; exact h.map
    · show (w1.heap.setIfInBounds i _)[i]? = _
      simp [hil]
namespace R
variable {P : Program} {ops : Array Oper} {S : Bool → Nat → Prop} {dr : Bool} {B : List Nat} {F : Env → World → Prop} {rest : List Oper} {e : Env} {w : World}
variable {d : Tmp} {od : Option Tmp} {ty : TypeId} {pos : String} {aft : Array Edge}
theorem range {x : Operand} {t kt et : TypeId} {r : Nat} {M : List (Int × Int)} (hu : P.underlying t = some (.map kt et)) (hM : MapJ w r M) (hx : ev e x = .map (some r)) (hag : dr = true → ∀ b, S false b → b < w.heap.size)
    (h : ∀ i w' es clock k, w.heap.size ≤ i → Ext w w' → Reads es.toList M → It w' i r es clock k → wpR P ops S dr (kind B) F rest (upd e d (.pointer (some ⟨i, 0, none⟩))) w') : wpR P ops S dr (kind B) F (⟨some d, .range t x, ty, pos, aft, none⟩ :: rest) e w := by
  obtain ⟨es, c, he, hr, hb⟩ := hM
  have hE : Ext w (w.alloc (.mapIter (some r) c #[] c)) := Upd.push _ _
  refine run3 (w' := w.alloc (.mapIter (some r) c #[] c)) (v := .pointer (some ⟨w.heap.size, 0, none⟩)) rfl ?_ (fun hd => hE.agree fun b hb => ⟨hag hd b hb, id⟩) (h _ _ es c _ (Nat.le_refl _) hE hr ⟨(hE.blk r (lt_of_get he) id).trans he, hb, #[], ?_, rfl⟩)
  · simp [execOp, hx, run_range_map w t kt et r es c hu he]
  · show (w.heap.push _)[w.heap.size]? = _; simp
theorem next {x : Operand} {i r k clock : Nat} {es : Array MapEntry} (hI : It w i r es clock k) (hx : ev e x = .pointer (some ⟨i, 0, none⟩)) (hd : dr = false)
    (h0 : ∀ w', Upd (one i) w w' → wpR P ops S dr (kind B) F rest (upd e d (.tuple #[.bool false])) w')
    (h1 : ∀ w' k' a b, Upd (one i) w w' → k' < k → It w' i r es clock k' → Came w' i r es clock → wpR P ops S dr (kind B) F rest (upd e d (.tuple #[.bool true, a, b])) w') : wpR P ops S dr (kind B) F (⟨some d, .next x false, ty, pos, aft, none⟩ :: rest) e w := by
  obtain ⟨v, w', hrun, hU, hv⟩ := run_next (P := P) (ty := ty) hI
  refine run3 (w' := w') (v := v) rfl (by simp [execOp, hx, hrun]) (fun h => by simp [hd] at h) ?_
  rcases hv with rfl | ⟨x, k', rfl, hk, hI', hC⟩
  · exact h0 w' hU
  · exact h1 w' k' _ _ hU hk hI' hC
end R
end Go.Proofs.Ytfdmndkoiheebaa

namespace Go.Proofs.Ytfdmndkoiheebaa
open Go Go.RowKit
theorem madeE (w : World) {vl : Value} {st ht n0 H : Nat} {ls : List Nat} (hl : U8s w vl ls) (hll : ls.length ≤ 9223372036854775807) (hls : ∀ x ∈ ls, x < 256) (hn : 1 + st % 6 = n0) (hH : 1 + ht % 6 = H) :
    Calls Try.prog 22 #[.int .u8 st, .int .u8 ht, vl] w (Ret fun r w' => Ext w w' ∧ ∃ v us xss, r = .agg #[v, .int .i64 H] ∧ MS w w' v us xss ∧ MadeP xss n0 H (min ls.length 20)) := by
  subst hn hH; exact made w hl hll hls
end Go.Proofs.Ytfdmndkoiheebaa

namespace Go.Proofs.Ytfdmndkoiheebaa
open Go Go.RowKit
theorem E.cutM {md : Mode} {P : Program} {N : Nat} {Q : Exit → Env → World → Prop} {next : Env → World → Prop} {e : Env} {w : World} {c : Code} (M : Env → World → Prop) (h : wpE md P N c (E.thn M Q) e w) (h2 : ∀ e w, M e w → next e w) : wpE md P N c (E.thn next Q) e w :=
  E.mono (fun x e w q => by cases x <;> first | exact h2 _ _ q | exact q) h
theorem MO.set {w w' : World} {v u : Value} {us : List Value} {xss : List (List Int)} {xs : List Int} {i : Nat} (h : MO w v us xss) (hi : i < xss.length) (hx : SInts w u xs) (hU : Upd (fun b => vblk v = some b) w w') (hO : Sl w' 35 1 v xss.length (us.set i u)) : MO w' v (us.set i u) (xss.set i xs) := by
  have hl := h.outer.len
  refine ⟨by rw [List.length_set]; exact hO, fun j hj => ?_⟩
  rw [List.length_set] at hj
  by_cases hij : i = j
  · subst hij
    exact ⟨u, by rw [List.getElem?_set_self (by omega)], by rw [List.getElem_set_self]; exact hx.upS hU h.outer (by decide)⟩
  · obtain ⟨y, h1, h2⟩ := h.elems j hj
    exact ⟨y, by rw [List.getElem?_set_ne hij]; exact h1, by rw [List.getElem_set_ne hij]; exact h2.upS hU h.outer (by decide)⟩
section
variable {xss : List (List Int)} {h : Int}
end
end Go.Proofs.Ytfdmndkoiheebaa

namespace Go.Proofs.Ytfdmndkoiheebaa
open Go Go.RowKit
theorem It.ne {w : World} {i r k clock b : Nat} {es : Array MapEntry} {ty : TypeId} {cs : Array Value} (h : It w i r es clock k) (hb : Blk w b ty cs) : b ≠ i := fun e => by
  obtain ⟨seen, h1, _⟩ := h.it
  subst e
  unfold Blk at hb
  rw [hb] at h1; cases h1
end Go.Proofs.Ytfdmndkoiheebaa

namespace Go.Proofs.Ytfdmndkoiheebaa
open Go Go.RowKit
structure MvP (xss : List (List Int)) (H : Nat) (nw : List (List Int)) (ds bs : List (Int × Int)) : Prop where
  right : RightP nw H
  play : playL H xss 0 ds = (nw, 0, 0)
  back : playL H nw 0 bs = (xss, 0, 0)
  perm : nw.flatten.Perm xss.flatten
  len : nw.length = xss.length
  same : bs.length = ds.length
theorem MvP.start {xss : List (List Int)} {H : Nat} (hR : RightP xss H) : MvP xss H xss [] [] := ⟨hR, rfl, rfl, List.Perm.refl _, rfl, rfl⟩
theorem PY.mo {w : World} {v : Value} {H ba : Nat} {us : List Value} {cur : Array Value} {xss : List (List Int)} (h : PY w v H ba us cur xss) : MO w v us xss := ⟨h.outer, fun i hi => ⟨_, (h.elems i hi).1, h.row i hi⟩⟩
theorem YO.mo {w w' : World} {v : Value} {h : Int} {xss : List (List Int)} (y : YO w w' v h xss) : ∃ us, MO w' v us xss := by
  rcases y with ⟨rfl, _, rfl⟩ | ⟨H, ba, us, cur, _, hP, _⟩
  · exact ⟨[], MO.nil _⟩
  · exact ⟨us, hP.mo⟩
theorem MO.upS {w w' : World} {v x : Value} {us : List Value} {xss : List (List Int)} {ty' : TypeId} {k' m : Nat} {ds : List Value} (h : MO w v us xss) (u : Upd (fun b => vblk x = some b) w w') (hx : Sl w ty' k' x m ds) (hne : 35 ≠ ty' ∧ 3 ≠ ty') : MO w' v us xss :=
  ⟨h.outer.upS u hx hne.1, fun i hi => by obtain ⟨y, h1, h2⟩ := h.elems i hi; exact ⟨y, h1, h2.upS u hx hne.2⟩⟩
end Go.Proofs.Ytfdmndkoiheebaa

namespace Go.Proofs.Ytfdmndkoiheebaa
open Go Go.RowKit
section
variable {xss ys : List (List Int)} {H nx n' : Nat} {ord : List Int} {s : Int × Int × Int}
theorem doL_shift2 {a : Nat} {t : Int} (hR : RightP xss (H : Int)) (ha : a < xss.length) (hl : 0 < xss[a].length) (ht : t ≠ -1) :
    doL xss H ord nx (xss[a][xss[a].length - 1], (a : Int), t) = if (shiftL xss H a t).2 = 0 then some ((shiftL xss H a t).1, nx) else none := by
  have h1 := hR.pos ha (show xss[a].length - 1 < xss[a].length by omega)
  have hga : xss.getD a [] = xss[a] := by simp [ha]
  rcases (show (t < 0 ∨ (xss.length : Int) ≤ t) ∨ (0 ≤ t ∧ t < xss.length) by omega) with h | h
  · have e1 : (shiftL xss H a t).2 ≠ 0 := by unfold shiftL; rw [if_pos (by omega)]; simp
    rw [if_neg e1]
    simp only [doL]
    rw [topL_at ha hl, if_neg (by omega), if_neg ht, if_pos (by omega)]
  · obtain ⟨c, rfl⟩ : ∃ c : Nat, t = c := ⟨t.toNat, by omega⟩
    have hc : c < xss.length := by omega
    have hgc : xss.getD c [] = xss[c] := by simp [hc]
    by_cases hca : c = a
    · have e1 : (shiftL xss H a c).2 ≠ 0 := by unfold shiftL; rw [if_neg (by omega), if_pos (by omega)]; simp
      rw [if_neg e1]
      simp only [doL]
      rw [topL_at ha hl, if_neg (by omega), if_neg ht, if_pos (by omega)]
    · by_cases hf : xss[c].length = H
      · have e1 : (shiftL xss H a c).2 ≠ 0 := by unfold shiftL; rw [if_neg (by omega), if_neg (by omega), Int.toNat_natCast, Int.toNat_natCast, hga, hgc, if_neg (by omega), if_pos hf]; simp
        rw [if_neg e1]
        simp only [doL]
        rw [topL_at ha hl, if_neg (by omega), if_neg ht, if_pos (by rw [Int.toNat_natCast, hgc]; exact .inr (.inr (.inr hf)))]
      · obtain ⟨q1, q2⟩ := doL_shift (ord := ord) (nx := nx) hR ha hl hc hca hf
        rw [if_pos q1, q2]
theorem doL_take {a : Nat} (hR : RightP xss (H : Int)) (ha : a < xss.length) (hl : 0 < xss[a].length) (b : Int) (hb : xss[a][xss[a].length - 1] = b) :
    doL xss H ord nx (b, (a : Int), -1) = if b = ord.getD nx 0 then some (xss.set a xss[a].dropLast, nx + 1) else none := by
  have h1 := hR.pos ha (show xss[a].length - 1 < xss[a].length by omega)
  have hga : xss.getD a [] = xss[a] := by simp [ha]
  simp only [doL]
  rw [topL_at ha hl, if_neg (by omega), if_pos trivial, Int.toNat_natCast, hga]
  by_cases hq : b = ord.getD nx 0
  · have : nx ≠ ord.length := fun e => by
      rw [e] at hq; simp at hq; omega
    rw [if_pos hq, if_neg (by omega)]
  · rw [if_neg hq, if_pos (.inr (fun e => hq e.symm))]
theorem doL_kind (h : doL xss H ord nx s = some (ys, n')) : (s.2.2 = -1 ∧ n' = nx + 1) ∨ (0 ≤ s.2.2 ∧ n' = nx) := by
  unfold doL at h
  split at h
  · cases h
  · split at h
    · split at h
      · cases h
      · rename_i h2 _; obtain ⟨rfl, rfl⟩ := Prod.mk.inj (Option.some.inj h); exact .inl ⟨h2, rfl⟩
    · split at h
      · cases h
      · obtain ⟨rfl, rfl⟩ := Prod.mk.inj (Option.some.inj h); exact .inr ⟨by omega, rfl⟩
theorem doL_right (hR : RightP xss (H : Int)) (h : doL xss H ord nx s = some (ys, n')) : RightP ys (H : Int) := by
  obtain ⟨b, f, t⟩ := s
  have hb : ¬ (b < 1 ∨ topL xss f ≠ b) := fun hc => by simp only [doL] at h; rw [if_pos hc] at h; cases h
  obtain ⟨a, ha, hl, rfl, hlast⟩ := topL_pos (show topL xss f = b by omega) (by omega)
  by_cases ht : t = -1
  · subst ht
    rw [doL_take hR ha hl _ hlast] at h
    split at h
    · obtain ⟨rfl, rfl⟩ := Prod.mk.inj (Option.some.inj h)
      have := (hR.taken ha (show xss[a].length - 1 < xss[a].length by omega) (by omega)).1
      rw [List.dropLast_eq_take]; exact this
    · cases h
  · rw [← hlast, doL_shift2 hR ha hl ht] at h
    split at h
    · rename_i hs
      obtain ⟨rfl, rfl⟩ := Prod.mk.inj (Option.some.inj h)
      exact hR.shift hs
    · cases h
end
end Go.Proofs.Ytfdmndkoiheebaa

namespace Go.Proofs.Ytfdmndkoiheebaa
open Go Go.RowKit
def YM (w wr : World) (v : Value) (xss : List (List Int)) : Prop := (∃ us, Mat w v us xss) ∨ ∃ us, MO wr v us xss
theorem YM.ext {w wr w' : World} {v : Value} {xss : List (List Int)} (h : YM w wr v xss) (u : Ext wr w') : YM w w' v xss := by
  rcases h with h | ⟨us, h⟩
  · exact .inl h
  · exact .inr ⟨us, h.ext u⟩
theorem YM.upT {w wr w' : World} {v : Value} {xss : List (List Int)} {b : Nat} {cs : Array Value} {ty : TypeId} (h : YM w wr v xss) (u : Upd (Ytfdmndkoiheebaa.one b) wr w') (hb : Blk wr b ty cs) (hne : 35 ≠ ty ∧ 3 ≠ ty) : YM w w' v xss := by
  rcases h with h | ⟨us, h⟩
  · exact .inl h
  · exact .inr ⟨us, h.upT u hb hne⟩
theorem YM.mat {w wr : World} {v : Value} {xss : List (List Int)} (h : YM w wr v xss) (hE : Ext w wr) : ∃ us, Mat wr v us xss := by
  rcases h with ⟨us, h⟩ | ⟨us, h⟩
  · exact ⟨us, h.ext hE⟩
  · exact ⟨us, h.mat⟩
theorem YM.one' {w wr : World} {v : Value} {xss : List (List Int)} (h : YM w wr v xss) : v.oneCell' = true := by
  rcases h with ⟨us, h⟩ | ⟨us, h⟩
  · exact h.row.one
  · exact h.outer.one
theorem stepsC_at2 {ss : List (Int × Int × Int)} {i : Nat} (h : i < ss.length) : (stepsC ss)[i * 3 + 2]? = some (.int .i64 ss[i].2.2) := by
  have h1 := congrArg (fun l => l[2]?) (steps_take h)
  simpa [List.getElem?_take, List.getElem?_drop] using h1
end Go.Proofs.Ytfdmndkoiheebaa

namespace Go.Proofs.Ytfdmndkoiheebaa
open Go Go.RowKit
theorem YM.upS {w wr w' : World} {v x : Value} {xss : List (List Int)} {ty' : TypeId} {k' m : Nat} {ds : List Value} (h : YM w wr v xss) (u : Upd (fun b => vblk x = some b) wr w') (hx : Sl wr ty' k' x m ds) (hne : 35 ≠ ty' ∧ 3 ≠ ty') : YM w w' v xss := by
  rcases h with h | ⟨us, h⟩
  · exact .inl h
  · exact .inr ⟨us, h.upS u hx hne⟩
structure OverJ (ys : List (List Int)) (H : Nat) (ord : List Int) (nx a k : Nat) (ov : List Int) : Prop where
  good : GoodJ ys H ord nx
  ln : nx < ord.length
  la : a < ys.length
  lk : k < ys[a].length
  box : ys[a][k] = ord[nx]
  find : findL ys ord[nx] = some (a, k)
  over : (ys[a].drop (k + 1)).reverse = ov
section
variable {ys : List (List Int)} {H : Nat} {ord : List Int} {nx a k : Nat} {ov : List Int} {b : Int}
theorem OverJ.len (h : OverJ ys H ord nx a k ov) : ov.length + (k + 1) = (ys[a]'h.la).length := by
  have h1 := congrArg List.length h.over
  have h2 := h.lk
  simp at h1; omega
theorem OverJ.top (h : OverJ ys H ord nx a k (b :: ov)) : topL ys (a : Nat) = b := by
  have hl := h.len
  simp at hl
  have ha := h.la
  rw [topL_at ha (by omega)]
  have h1 := congrArg (fun l => l.head?) h.over
  simp only [List.head?_reverse, List.head?_cons, List.getLast?_drop] at h1
  rw [if_neg (by omega), List.getLast?_eq_getElem?, List.getElem?_eq_getElem (by omega)] at h1
  exact Option.some.inj h1
theorem OverJ.ne (h : OverJ ys H ord nx a k (b :: ov)) : topL ys (a : Nat) ≠ ord[nx]'h.ln := fun e => by
  have hl := h.len
  have ha := h.la
  simp at hl
  rw [topL_at ha (by omega), ← h.box] at e
  have := (h.good.right.inj ha (show ys[a].length - 1 < ys[a].length by omega) ha h.lk e).2
  omega
theorem OverJ.next (h : OverJ ys H ord nx a k (b :: ov)) {j : Nat} (hj : j < ys.length) (hja : j ≠ a) (hjH : ys[j].length ≠ H) : OverJ (shiftL ys H a j).1 H ord nx a k ov ∧ (shiftL ys H a j).2 = 0 ∧ doL ys H ord nx (b, ((a : Nat) : Int), (j : Nat)) = some ((shiftL ys H a j).1, nx) := by
  have hl := h.len
  have ha := h.la
  simp at hl
  obtain ⟨hs, hd⟩ := doL_shift (ord := ord) (nx := nx) h.good.right ha (by omega) hj hja hjH
  have ht := h.top
  rw [topL_at ha (by omega)] at ht
  rw [ht] at hd
  obtain ⟨hG, hF, _⟩ := h.good.reloc ha h.lk (by omega) hj hja hjH
  rw [h.box] at hF
  have hlen : (shiftL ys H a j).1.length = ys.length := shiftL_len
  obtain ⟨a', b', ha', hb', hl', e1, e2, hab, hn, he⟩ := shiftL_ok hs
  obtain rfl : a = a' := by omega
  have hrow : (shiftL ys H a j).1[a]'(by omega) = ys[a].dropLast := by simp only [he]; rw [List.getElem_set_self]
  refine ⟨⟨hG, h.ln, by omega, by rw [hrow]; simp; omega, by simp only [hrow]; rw [List.getElem_dropLast]; exact h.box, hF, ?_⟩, hs, hd⟩
  rw [hrow]
  have h1 := h.over
  have h2 : (ys[a].dropLast).drop (k + 1) = (ys[a].drop (k + 1)).dropLast := by
    rw [List.dropLast_eq_take, List.dropLast_eq_take, List.drop_take, List.length_drop]; congr 1; omega
  rw [h2]
  have h3 := congrArg List.tail h1
  rw [List.tail_reverse] at h3
  exact h3
theorem OverJ.leave (h : OverJ ys H ord nx a k []) : topL ys (a : Nat) = ord[nx]'h.ln ∧ doL ys H ord nx (ord[nx]'h.ln, ((a : Nat) : Int), -1) = some (ys.set a ((ys[a]'h.la).take k), nx + 1) ∧ GoodJ (ys.set a ((ys[a]'h.la).take k)) H ord (nx + 1) ∧ takeR ys H (ord[nx]'h.ln) = (ys.set a ((ys[a]'h.la).take k), (H : Int), 0) := by
  have hl := h.len
  have ha := h.la
  simp at hl
  obtain ⟨q1, q2⟩ := h.good.leave h.ln ha h.lk h.box (by omega)
  have hd : ys[a].dropLast = ys[a].take k := by rw [List.dropLast_eq_take]; congr 1; omega
  rw [hd] at q1 q2
  refine ⟨?_, q1, q2, ?_⟩
  · rw [topL_at ha (by omega), ← h.box]; congr 1; omega
  · have := h.good.right.take_top ha h.lk (by omega)
    rw [h.box] at this
    exact this
theorem OverJ.start {nx : Nat} (h : GoodJ ys H ord nx) (hn : nx < ord.length) : ∃ (a k : Nat) (ov : List Int), OverJ ys H ord nx a k ov ∧ aboveL ys H ord[nx] = (ov, 0) ∧ findV ys ord[nx] = .tuple #[.int .i64 (a : Nat), .int .i64 (k : Nat), .bool true] := by
  obtain ⟨a, k, ha, hk, hak, hF⟩ := h.at hn
  refine ⟨a, k, (ys[a].drop (k + 1)).reverse, ⟨h, hn, ha, hk, hak, hF, rfl⟩, ?_, ?_⟩
  · simp [aboveL, h.right.b, hF, ha]
  · simp [findV, hF]
end
end Go.Proofs.Ytfdmndkoiheebaa

namespace Go.Proofs.Ytfdmndkoiheebaa
open Go Go.RowKit
theorem Lent.upT {w w' : World} {v : Value} {xs : List Int} {b : Nat} {ty : TypeId} {cs : Array Value} (h : Lent w v xs) (u : Upd (Ytfdmndkoiheebaa.one b) w w') (hb : Blk w b ty cs) (hne : 3 ≠ ty) : Lent w' v xs := by
  obtain ⟨v0, h, e⟩ := h; exact ⟨v0, h.upT u hb hne, e⟩
end Go.Proofs.Ytfdmndkoiheebaa

namespace Go.Proofs.Ytfdmndkoiheebaa
open Go Go.RowKit
theorem runG_len {H : Nat} {ord : List Int} : ∀ (n : Nat) (xss : List (List Int)) (nx : Nat) (acc : List (Int × Int × Int)), (runG H ord n xss nx acc).1.length ≤ acc.length + n := by
  intro n
  induction n with
  | zero => intro xss nx acc; simp [runG]
  | succ n ih =>
    intro xss nx acc
    simp only [runG]
    split
    · split
      · split
        · refine Nat.le_trans (ih _ _ _) ?_; simp; omega
        · simp
      · split
        · simp
        · split
          · refine Nat.le_trans (ih _ _ _) ?_; simp; omega
          · simp
    · simp
theorem runR_len {xss : List (List Int)} {h : Int} {ord : List Int} : (runR xss h ord).1.length ≤ 7 * ord.length + 7 := by
  unfold runR
  split
  · simpa using runG_len (H := h.toNat) (ord := ord) (7 * ord.length + 7) xss 0 []
  · simp
end Go.Proofs.Ytfdmndkoiheebaa
