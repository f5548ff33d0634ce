import Derived.Test.YtfdmndkoiheebaaZ16J8
import Derived.Test.YtfdmndkoiheebaaZ16Maps
import Derived.Laws.IdiomRangeMap
import Derived.Test.YtfdmndkoiheebaaZ16G2
import Derived.Test.YtfdmndkoiheebaaZ16Yard3
namespace Go.Proofs.Ytfdmndkoiheebaa
open Go Go.RowKit
theorem fa117_0 : Fld Try.prog 117 0 0 := ⟨_, _, 1, Try.underlying117, rfl, rfl, by decide, by kernel_rfl⟩
theorem fa117_1 : Fld Try.prog 117 1 1 := ⟨_, _, 1, Try.underlying117, rfl, rfl, by decide, by kernel_rfl⟩
theorem fa117_2 : Fld Try.prog 117 2 2 := ⟨_, _, 1, Try.underlying117, rfl, rfl, by decide, by kernel_rfl⟩
theorem rankL_hit {xs : List Int} {b : Int} {k : Nat} (hk : k < xs.length) (h : xs[k] = b) (hn : b ∉ xs.take k) : rankL xs b = k := by
  have h1 := indexL_hit hk h.symm hn
  have hm : b ∈ xs := h ▸ List.getElem_mem hk
  simp [indexL, hm] at h1
  simp [rankL, hm]; omega
theorem rankL_take {xs : List Int} {b : Int} {k : Nat} (h : rankL xs b = k) : b ∉ xs.take k := fun hm => by
  have hm2 : b ∈ xs := List.mem_of_mem_take hm
  have h1 : rankL xs b = xs.idxOf b := by simp [rankL, hm2]
  have h2 := List.idxOf_lt_length_iff.2 hm
  rw [h1] at h
  have h3 : xs.idxOf b = (xs.take k ++ xs.drop k).idxOf b := by rw [List.take_append_drop]
  rw [List.idxOf_append, if_pos hm] at h3
  rw [List.length_take] at h2
  omega
theorem rankL_miss {xs : List Int} {b : Int} (hn : b ∉ xs) : rankL xs b = xs.length := by simp [rankL, hn]
theorem not_take_succ {xs : List Int} {b : Int} {k : Nat} (hk : k < xs.length) (h : xs[k] ≠ b) (hn : b ∉ xs.take k) : b ∉ xs.take (k + 1) := by
  rw [take_snoc (List.getElem?_eq_getElem hk)]
  intro hm
  rcases List.mem_append.1 hm with hm | hm
  · exact hn hm
  · simp at hm; exact h hm.symm
theorem rRank (w : World) {v : Value} {ord : List Int} {b : Int} (h : Ints w v ord) (hl : ord.length < 1000000000) :
    Calls Try.prog 86 #[v, .int .i64 b] w (Ret fun r w' => Ext w w' ∧ r = .int .i64 (rankL ord b : Nat)) := by
  refine calls_E (args := [v, .int .i64 b]) 21 Try.func86 rfl rfl (by simp) ?_
  have hE : Ext w w := Upd.refl w
  refine E.seq ?_
  refine E.regionP rfl ?_
  refine R.assign ?_
  refine R.nil ?_
  refine E.seq ?_
  refine E.seq ?_
  refine E.regionP rfl ?_
  refine R.assign ?_
  refine R.nil ?_
  refine E.block ?_
  refine E.loop (fun n e wr => ∃ (i : Nat), n = ord.length - i ∧ i ≤ ord.length ∧ b ∉ ord.take i ∧ Ext w wr ∧ Has e [(0, v), (1, .int .i64 b), (5, .int .i64 (i : Nat))]) (ord.length) ?_ ?_
  · exact ⟨0, rfl, Nat.zero_le _, by simp, hE, rfl, rfl, rfl, trivial⟩
  · rintro n e wr ⟨i, rfl, hi, hn, hE, hH⟩
    obtain ⟨e, rfl⟩ := hH.ex
    clear hH
    refine E.seq ?_
    refine E.seq ?_
    refine E.regionP rfl ?_
    refine R.move ?_
    refine R.move ?_
    refine R.len Try.underlying35 h rfl ?_
    refine R.lss rfl rfl rfl ?_
    refine R.nil ?_
    refine E.cond rfl (fun hc9 => ?_) (fun hc9 => ?_)
    · replace hc9 := dT hc9
      have hi1 : i < ord.length := by omega
      refine E.skip ?_
      refine E.seq ?_
      refine E.block ?_
      refine E.seq ?_
      refine E.regionP rfl ?_
      refine R.move ?_
      refine R.move ?_
      refine R.ix Try.underlying35 t3 (by decide) h rfl rfl (by omega) ?_
      refine R.ld t3 (h.ext hE) rfl (int_at (by omega)) rfl (fun _ _ => trivial) ?_
      refine R.move ?_
      refine R.eql rfl rfl rfl ?_
      refine R.nil ?_
      refine E.cond rfl (fun hc17 => ?_) (fun hc17 => ?_)
      · replace hc17 := dT hc17
        refine E.seq ?_
        refine E.regionP rfl ?_
        refine R.move ?_
        refine R.assign ?_
        refine R.nil ?_
        refine E.ret ?_
        exact ret1 (.int .i64 (i : Nat)) rfl rfl ⟨_, rfl, hE, by rw [rankL_hit hi1 hc17 hn]⟩
      · replace hc17 := dF hc17
        refine E.skip ?_
        refine E.regionP rfl ?_
        refine R.move ?_
        refine R.addN (n := 1) rfl rfl (by omega) ?_
        refine R.assign ?_
        refine R.nil ?_
        exact ⟨ord.length - (i + 1), by omega, i + 1, rfl, by omega, not_take_succ hi1 hc17 hn, hE, rfl, rfl, rfl, trivial⟩
    · replace hc9 := dF hc9
      refine E.exit ?_
      refine E.seq ?_
      refine E.regionP rfl ?_
      refine R.move ?_
      refine R.len Try.underlying35 h rfl ?_
      refine R.assign ?_
      refine R.nil ?_
      refine E.ret ?_
      obtain rfl : i = ord.length := by omega
      rw [List.take_length] at hn
      exact ret1 (.int .i64 (ord.length : Nat)) rfl rfl ⟨_, rfl, hE, by rw [rankL_miss hn]⟩
theorem rRightO (w : World) {v vo : Value} {h : Int} {us : List Value} {xss : List (List Int)} {ord : List Int} (hm : Mat w v us xss) (ho : Ints w vo ord) (hl : xss.length < 100000) (hx : ∀ xs ∈ xss, xs.length ≤ 10) (hol : ord.length < 1000000000) :
    Calls Try.prog 88 #[.agg #[v, .int .i64 h], vo] w (Ret fun r w' => Ext w w' ∧ r = .bool (beginB xss h ord)) := by
  have hl6 : xss.length < 1000000 := by omega
  have hx6 : ∀ xs ∈ xss, xs.length < 1000000 := fun xs h => by have := hx xs h; omega
  cases hR : rightB xss h
  rotate_left
  · skip
    refine calls_E (args := [.agg #[v, .int .i64 h], vo]) 40 Try.func88 rfl rfl (by simp) ?_
    have hE : Ext w w := Upd.refl w
    refine E.seq ?_
    refine E.regionP rfl ?_
    refine R.box rfl nofun ?_
    intro b2 w1 hb2 hx1 hB2
    replace hb2 := Nat.le_trans hE.size hb2
    replace hE := hE.ext hx1
    replace hB2 : Blk _ b2 54 #[v, .int .i64 h] := hB2
    refine R.assign ?_
    refine R.nil ?_
    refine E.seq ?_
    refine E.seq ?_
    refine E.regionP rfl ?_
    refine R.loadA t54 hB2 rfl rfl rfl trivial ?_
    refine R.callE1 ent55 (rRight _ (hm.ext hE) hl hx) rfl nofun ?_
    rintro v10 w2 hx2 rfl
    rw [hR]
    replace hB2 := hB2.ext hx2
    replace hE := hE.ext hx2
    refine R.not rfl ?_
    refine R.nil ?_
    refine E.condF rfl ?_
    refine E.skip ?_
    refine E.seq ?_
    refine E.seq ?_
    refine E.regionP rfl ?_
    refine R.assign ?_
    refine R.nil ?_
    refine E.block ?_
    refine E.loop (fun n e wr => ∃ (k : Nat), n = ord.length - k ∧ k ≤ ord.length ∧ OrdP xss (ord.take k) ∧ Ext w wr ∧ Blk wr b2 54 #[v, .int .i64 h] ∧ Has e [(1, vo), (2, .pointer (some ⟨b2, 0, none⟩)), (5, .int .i64 (k : Nat))]) (ord.length) ?_ ?_
    · exact ⟨0, rfl, Nat.zero_le _, by simpa using OrdP.nil, hE, hB2, rfl, rfl, rfl, trivial⟩
    · rintro n e wr ⟨k, rfl, hk, hO, hE, hB2, hH⟩
      obtain ⟨e, rfl⟩ := hH.ex
      clear hH
      refine E.seq ?_
      refine E.seq ?_
      refine E.regionP rfl ?_
      refine R.move ?_
      refine R.move ?_
      refine R.len Try.underlying35 ho rfl ?_
      refine R.lss rfl rfl rfl ?_
      refine R.nil ?_
      refine E.cond rfl (fun hc15 => ?_) (fun hc15 => ?_)
      · replace hc15 := dT hc15
        have hk1 : k < ord.length := by omega
        obtain ⟨x, y, hfv⟩ := rightB_findV (xss := xss) (b := ord[k])
        refine E.skip ?_
        refine E.seq ?_
        refine E.block ?_
        refine E.seq ?_
        refine E.regionW (fun _ b => b < wr.heap.size) [] mixed rfl (by kernel_rfl) ?_
        intro w3 hx3 hh3
        replace hB2 := hB2.ext hx3
        replace hE := hE.ext hx3
        have hEs : Ext w3 w3 := Upd.refl _
        have hS0 := hx3.size
        have hSs : ∀ b, b < w3.heap.size → b < wr.heap.size := fun b hb => by rw [hh3] at hb; exact hb
        have hSa : ∀ b, b < w.heap.size → b < wr.heap.size := fun b hb => by have := hE.size; rw [hh3] at this; omega
        have hB2s := hB2
        refine R.loadAE t54 hB2s hEs rfl rfl rfl hSs ?_
        refine R.move ?_
        refine R.move ?_
        refine R.ix Try.underlying35 t3 (by decide) ho rfl rfl (by omega) ?_
        refine R.ldE t3 ho hE rfl (int_at (by omega)) rfl hSa ?_
        refine R.callE2 ent52 (rFindE _ (hm.ext hE) hl6 hx6 hfv) rfl rfl (fun _ _ hb => Nat.lt_of_lt_of_le hb (Nat.le_trans hS0 hEs.size)) ?_
        rintro v24 w4 hx4 rfl
        replace hB2 := hB2.ext hx4
        replace hE := hE.ext hx4
        replace hEs := hEs.ext hx4
        refine R.move ?_
        refine R.extract rfl rfl ?_
        refine R.extract rfl rfl ?_
        refine R.extract rfl rfl ?_
        refine R.assign ?_
        refine R.assign ?_
        refine R.assign ?_
        refine R.nil ?_
        refine E.seq ?_
        rcases (show ord[k] ∉ xss.flatten ∨ (ord[k] ∈ xss.flatten ∧ rankL ord ord[k] ≠ k) ∨ (ord[k] ∈ xss.flatten ∧ rankL ord ord[k] = k) by by_cases h1 : ord[k] ∈ xss.flatten <;> by_cases h2 : rankL ord ord[k] = k <;> simp [h1, h2]) with hq | ⟨hq, hq2⟩ | ⟨hq, hq2⟩
        · refine E.regionP rfl ?_
          refine R.mv (.bool false) (by show Value.bool _ = _; simp [hq]) ?_
          refine R.not rfl ?_
          refine R.move ?_
          refine R.gF rfl rfl rfl ?_
          refine R.gF rfl rfl rfl ?_
          refine R.gF rfl rfl rfl ?_
          refine R.gF rfl rfl rfl ?_
          refine R.gF rfl rfl rfl ?_
          refine R.gF rfl rfl rfl ?_
          refine R.gF rfl rfl rfl ?_
          refine R.gF rfl rfl rfl ?_
          refine R.pickT rfl ?_
          refine R.nil ?_
          refine E.condT rfl ?_
          refine E.seq ?_
          refine E.regionP rfl ?_
          refine R.assign ?_
          refine R.nil ?_
          refine E.ret ?_
          exact ret1 (.bool false) rfl rfl ⟨_, rfl, hE, by rw [eq_comm]; simp only [Value.bool.injEq, beginB, hR, Bool.true_and, decide_eq_false_iff_not]; exact fun h => hq (h.take hk1).2⟩
        · refine E.regionP rfl ?_
          refine R.mv (.bool true) (by show Value.bool _ = _; simp [hq]) ?_
          refine R.not rfl ?_
          refine R.move ?_
          refine R.gT rfl rfl ?_
          refine R.move ?_
          refine R.gT rfl rfl ?_
          refine R.move ?_
          refine R.gT rfl rfl ?_
          refine R.move ?_
          refine R.gT rfl rfl ?_
          refine R.ix Try.underlying35 t3 (by decide) ho rfl rfl (by omega) ?_
          refine R.gT rfl rfl ?_
          refine R.ld t3 (ho.ext hE) rfl (int_at (by omega)) rfl (fun _ _ => trivial) ?_
          refine R.gT rfl rfl ?_
          refine R.callE2 ent86 (rRank _ (b := ord[k]) (ho.ext hE) hol) rfl rfl nofun ?_
          rintro v36 w5 hx5 rfl
          replace hB2 := hB2.ext hx5
          replace hE := hE.ext hx5
          refine R.gT rfl rfl ?_
          refine R.move ?_
          refine R.gT rfl rfl ?_
          refine R.neq (b := true) rfl rfl (by simp; omega) ?_
          refine R.pickF rfl ?_
          refine R.nil ?_
          refine E.condT rfl ?_
          refine E.seq ?_
          refine E.regionP rfl ?_
          refine R.assign ?_
          refine R.nil ?_
          refine E.ret ?_
          exact ret1 (.bool false) rfl rfl ⟨_, rfl, hE, by rw [eq_comm]; simp only [Value.bool.injEq, beginB, hR, Bool.true_and, decide_eq_false_iff_not]; exact fun h => hq2 (rankL_hit hk1 rfl (h.take hk1).1)⟩
        · refine E.regionP rfl ?_
          refine R.mv (.bool true) (by show Value.bool _ = _; simp [hq]) ?_
          refine R.not rfl ?_
          refine R.move ?_
          refine R.gT rfl rfl ?_
          refine R.move ?_
          refine R.gT rfl rfl ?_
          refine R.move ?_
          refine R.gT rfl rfl ?_
          refine R.move ?_
          refine R.gT rfl rfl ?_
          refine R.ix Try.underlying35 t3 (by decide) ho rfl rfl (by omega) ?_
          refine R.gT rfl rfl ?_
          refine R.ld t3 (ho.ext hE) rfl (int_at (by omega)) rfl (fun _ _ => trivial) ?_
          refine R.gT rfl rfl ?_
          refine R.callE2 ent86 (rRank _ (b := ord[k]) (ho.ext hE) hol) rfl rfl nofun ?_
          rintro v36 w6 hx6 rfl
          replace hB2 := hB2.ext hx6
          replace hE := hE.ext hx6
          refine R.gT rfl rfl ?_
          refine R.move ?_
          refine R.gT rfl rfl ?_
          refine R.neq (b := false) rfl rfl (by simp; omega) ?_
          refine R.pickF rfl ?_
          refine R.nil ?_
          refine E.condF rfl ?_
          refine E.skip ?_
          refine E.regionP rfl ?_
          refine R.move ?_
          refine R.addN (n := 1) rfl rfl (by omega) ?_
          refine R.assign ?_
          refine R.nil ?_
          have hnk : ord[k] ∉ ord.take k := rankL_take hq2
          exact ⟨ord.length - (k + 1), by omega, k + 1, rfl, by omega, by rw [take_snoc (List.getElem?_eq_getElem hk1)]; exact hO.snoc hnk hq, hE, hB2, rfl, rfl, rfl, trivial⟩
      · replace hc15 := dF hc15
        refine E.exit ?_
        refine E.seq ?_
        refine E.regionP rfl ?_
        refine R.assign ?_
        refine R.nil ?_
        refine E.ret ?_
        obtain rfl : k = ord.length := by omega
        rw [List.take_length] at hO
        exact ret1 (.bool true) rfl rfl ⟨_, rfl, hE, by simp [beginB, hR, hO]⟩
  · refine calls_E (args := [.agg #[v, .int .i64 h], vo]) 40 Try.func88 rfl rfl (by simp) ?_
    have hE : Ext w w := Upd.refl w
    refine E.seq ?_
    refine E.regionP rfl ?_
    refine R.box rfl nofun ?_
    intro b2 w1 hb2 hx1 hB2
    replace hb2 := Nat.le_trans hE.size hb2
    replace hE := hE.ext hx1
    replace hB2 : Blk _ b2 54 #[v, .int .i64 h] := hB2
    refine R.assign ?_
    refine R.nil ?_
    refine E.seq ?_
    refine E.seq ?_
    refine E.regionP rfl ?_
    refine R.loadA t54 hB2 rfl rfl rfl trivial ?_
    refine R.callE1 ent55 (rRight _ (hm.ext hE) hl hx) rfl nofun ?_
    rintro v10 w2 hx2 rfl
    rw [hR]
    replace hB2 := hB2.ext hx2
    replace hE := hE.ext hx2
    refine R.not rfl ?_
    refine R.nil ?_
    refine E.condT rfl ?_
    refine E.seq ?_
    refine E.regionP rfl ?_
    refine R.assign ?_
    refine R.nil ?_
    refine E.ret ?_
    exact ret1 (.bool false) rfl rfl ⟨_, rfl, hE, by simp [beginB, hR]⟩
end Go.Proofs.Ytfdmndkoiheebaa

namespace Go.Proofs.Ytfdmndkoiheebaa
open Go Go.RowKit
def MapJ (w : World) (r : Nat) (M : List (Int × Int)) : Prop := ∃ es clock, w.heap[r]? = some (.map es clock) ∧ Reads es.toList M ∧ ∀ x ∈ es.toList, x.born < clock
theorem MapJ.i {w : World} {r : Nat} {M : List (Int × Int)} (h : MapJ w r M) : MapI w r M := by obtain ⟨es, c, h, hr, _⟩ := h; exact ⟨es, c, h, hr⟩
theorem MapJ.up {X : Nat → Prop} {w w' : World} {r : Nat} {M : List (Int × Int)} (h : MapJ w r M) (u : Upd X w w') (hx : ¬ X r) : MapJ w' r M := by
  obtain ⟨es, c, h, hr⟩ := h; exact ⟨es, c, (u.blk r (lt_of_get h) hx).trans h, hr⟩
theorem MapJ.ext {w w' : World} {r : Nat} {M : List (Int × Int)} (h : MapJ w r M) (u : Ext w w') : MapJ w' r M := h.up u id
theorem MapJ.upT {w w' : World} {r b : Nat} {M : List (Int × Int)} {ty : TypeId} {cs : Array Value} (h : MapJ w r M) (u : Upd (one b) w w') (hb : Blk w b ty cs) (_ : 1 = 1) : MapJ w' r M := h.up u (h.i.ne hb)
theorem Reads.len {es : List MapEntry} {M : List (Int × Int)} (h : Reads es M) : es.length = M.length := by simpa using congrArg List.length h
structure It (w : World) (i r : Nat) (es : Array MapEntry) (clock k : Nat) : Prop where
  map : w.heap[r]? = some (.map es clock)
  born : ∀ x ∈ es.toList, x.born < clock
  it : ∃ seen, w.heap[i]? = some (.mapIter (some r) clock seen clock) ∧ (leftOf es seen).size = k
def Came (w : World) (i r : Nat) (es : Array MapEntry) (clock : Nat) : Prop := w.heap[r]? = some (.map es clock) ∧ ∃ (seen : Array Nat) (x : MapEntry), w.heap[i]? = some (.mapIter (some r) clock (seen.push x.born) clock) ∧ x ∈ es.toList
theorem It.up {X : Nat → Prop} {w w' : World} {i r k clock : Nat} {es : Array MapEntry} (h : It w i r es clock k) (u : Upd X w w') (h1 : ¬ X i) (h2 : ¬ X r) : It w' i r es clock k := by
  obtain ⟨seen, h3, h4⟩ := h.it
  exact ⟨(u.blk r (lt_of_get h.map) h2).trans h.map, h.born, seen, (u.blk i (lt_of_get h3) h1).trans h3, h4⟩
theorem It.ext {w w' : World} {i r k clock : Nat} {es : Array MapEntry} (h : It w i r es clock k) (u : Ext w w') : It w' i r es clock k := h.up u id id
theorem left_lt {es : Array MapEntry} {seen : Array Nat} {x : MapEntry} (hx : x ∈ (leftOf es seen).toList) : (leftOf es (seen.push x.born)).size < (leftOf es seen).size := by
  have e : ∀ s : Array Nat, (leftOf es s).toList = es.toList.filter fun e => !s.contains e.born := fun s => by simp [leftOf]
  rw [← Array.length_toList, ← Array.length_toList, e, e]
  rw [e] at hx
  have h1 : es.toList.filter (fun e => !(seen.push x.born).contains e.born) = (es.toList.filter fun e => !seen.contains e.born).filter (fun e => e.born != x.born) := by
    rw [List.filter_filter]
    refine List.filter_congr fun y _ => ?_
    by_cases h : y.born = x.born <;> simp [h]
  rw [h1]
  rcases Nat.lt_or_ge ((es.toList.filter fun e => !seen.contains e.born).filter (fun e => e.born != x.born)).length (es.toList.filter fun e => !seen.contains e.born).length with h | h
  · exact h
  · exfalso
    have := List.length_filter_eq_length_iff.1 (Nat.le_antisymm (List.length_filter_le _ _) h) x hx
    simp at this
theorem run_next {P : Program} {w : World} {i r k clock : Nat} {es : Array MapEntry} {ty : TypeId} (h : It w i r es clock k) :
    ∃ v w', (Instr.next (.pointer (some ⟨i, 0, none⟩)) false ty).run P w = .ok v w' ∧ Upd (one i) w w' ∧ (v = .tuple #[.bool false] ∨ ∃ (x : MapEntry) (k' : Nat), v = .tuple #[.bool true, x.key, x.val] ∧ k' < k ∧ It w' i r es clock k' ∧ Came w' i r es clock) := by
  obtain ⟨seen, hi, rfl⟩ := h.it
  have hir : i ≠ r := fun e => by subst e; rw [h.map] at hi; cases hi
  have ht := next_test_false seen es clock clock h.born (Nat.le_refl _)
  have hmem : ∀ x ∈ (leftOf es seen).toList, x.born < clock := fun x hx => h.born x (by unfold leftOf at hx; simp at hx ⊢; exact hx.1)
  have hsub : ∀ x ∈ (leftOf es seen).toList, x ∈ es.toList := fun x hx => by unfold leftOf at hx; simp at hx ⊢; exact hx.1
  have hlt := fun {x : MapEntry} (hx : x ∈ (leftOf es seen).toList) => left_lt hx
  simp only [Instr.next, getObj, Sem.run_bind, Sem.run, hi, h.map, Result.andThen, ht, Bool.false_eq_true, if_false]
  show ∃ v w', _
  have e0 : Array.filter (fun e => !seen.contains e.born) es = leftOf es seen := rfl
  rw [e0]
  generalize hL : leftOf es seen = L at hmem hsub hlt ⊢
  have e1 : L.filter (fun x => decide (x.born < clock)) = L := Array.filter_eq_self.2 (fun x hx => by simpa using hmem x (by simpa using hx))
  have e2 : L.filter (fun x => decide (x.born ≥ clock)) = #[] := by
    rw [Array.filter_eq_empty_iff]
    intro x hx
    have := hmem x (by simpa using hx)
    simp
    omega
  simp only [e1, e2, Array.append_empty]
  by_cases h0 : L.size = 0
  · have : L = #[] := Array.eq_empty_of_size_eq_zero h0
    subst this
    refine ⟨.tuple #[.bool false], w, ?_, Upd.refl _, .inl rfl⟩
    simp [choose, Sem.run, Question.forced]
  · have hne : L.isEmpty = false := by simp [Array.isEmpty, h0]
    simp only [hne, Bool.false_eq_true, if_false, Array.empty_append, Array.size_map]
    have hch : ∃ (j : Nat) (w1 : World), j < L.size ∧ Ext w w1 ∧ w1.heap = w.heap ∧ (choose (Question.mapNext L.size)).run P w = .ok j w1 := by
      by_cases hf : L.size ≤ 1
      · exact ⟨0, w, by omega, Upd.refl _, rfl, by simp [choose, Sem.run, Question.forced, hf]⟩
      · exact ⟨_, w.drew, Nat.mod_lt _ (by omega), Upd.drew _, rfl, by
          simp only [choose, Sem.run, Question.forced, decide_eq_true_eq, hf, if_false, Question.cut]
          rfl⟩
    obtain ⟨j, w1, hj, hE, hh, hrun⟩ := hch
    have hi1 : w1.heap[i]? = some (.mapIter (some r) clock seen clock) := by rw [hh]; exact hi
    have hil : i < w1.heap.size := lt_of_get hi1
    have hset : ∀ o' : Obj, (setObj i o').run P w1 = .ok () { w1 with heap := w1.heap.setIfInBounds i o' } := fun o' => by
      simp only [setObj, Sem.run, hi1]
    refine ⟨.tuple #[.bool true, L[j].key, L[j].val], { w1 with heap := w1.heap.setIfInBounds i (.mapIter (some r) clock (seen.push L[j].born) clock) }, ?_, ?_, .inr ⟨L[j], _, rfl, hlt (x := L[j]) (by simp), ⟨?_, h.born, _, ?_, rfl⟩, ?_, seen, L[j], ?_, hsub _ (by simp)⟩⟩
    · simp only [hrun, Array.getElem?_map, Array.getElem?_eq_getElem hj, Option.map_some, Sem.run_bind, hset, Result.andThen]
      rfl
    · have hu : Upd (one i) w1 { w1 with heap := w1.heap.setIfInBounds i (.mapIter (some r) clock (seen.push L[j].born) clock) } := ⟨rfl, rfl, rfl, by simp, fun b _ hb => by
        show (w1.heap.setIfInBounds i _)[b]? = _
        rw [Array.getElem?_setIfInBounds_ne (fun e => hb e.symm)]⟩
      exact hE.upd.trans hu (fun _ _ h => h)
    · show (w1.heap.setIfInBounds i _)[r]? = _
      rw [Array.getElem?_setIfInBounds_ne hir, hh]; exact h.map
    · show (w1.heap.setIfInBounds i _)[i]? = _
      simp [hil]
    · show (w1.heap.setIfInBounds i _)[r]? = _
      rw [Array.getElem?_setIfInBounds_ne hir, hh]; exact h.map
    · show (w1.heap.setIfInBounds i _)[i]? = _
      simp [hil]
namespace R
variable {P : Program} {ops : Array Oper} {S : Bool → Nat → Prop} {dr : Bool} {B : List Nat} {F : Env → World → Prop} {rest : List Oper} {e : Env} {w : World}
variable {d : Tmp} {od : Option Tmp} {ty : TypeId} {pos : String} {aft : Array Edge}
theorem range {x : Operand} {t kt et : TypeId} {r : Nat} {M : List (Int × Int)} (hu : P.underlying t = some (.map kt et)) (hM : MapJ w r M) (hx : ev e x = .map (some r)) (hag : dr = true → ∀ b, S false b → b < w.heap.size)
    (h : ∀ i w' es clock k, w.heap.size ≤ i → Ext w w' → Reads es.toList M → It w' i r es clock k → wpR P ops S dr (kind B) F rest (upd e d (.pointer (some ⟨i, 0, none⟩))) w') : wpR P ops S dr (kind B) F (⟨some d, .range t x, ty, pos, aft, none⟩ :: rest) e w := by
  obtain ⟨es, c, he, hr, hb⟩ := hM
  have hE : Ext w (w.alloc (.mapIter (some r) c #[] c)) := Upd.push _ _
  refine run3 (w' := w.alloc (.mapIter (some r) c #[] c)) (v := .pointer (some ⟨w.heap.size, 0, none⟩)) rfl ?_ (fun hd => hE.agree fun b hb => ⟨hag hd b hb, id⟩) (h _ _ es c _ (Nat.le_refl _) hE hr ⟨(hE.blk r (lt_of_get he) id).trans he, hb, #[], ?_, rfl⟩)
  · simp [execOp, hx, run_range_map w t kt et r es c hu he]
  · show (w.heap.push _)[w.heap.size]? = _; simp
theorem next {x : Operand} {i r k clock : Nat} {es : Array MapEntry} (hI : It w i r es clock k) (hx : ev e x = .pointer (some ⟨i, 0, none⟩)) (hd : dr = false)
    (h0 : ∀ w', Upd (one i) w w' → wpR P ops S dr (kind B) F rest (upd e d (.tuple #[.bool false])) w')
    (h1 : ∀ w' k' a b, Upd (one i) w w' → k' < k → It w' i r es clock k' → Came w' i r es clock → wpR P ops S dr (kind B) F rest (upd e d (.tuple #[.bool true, a, b])) w') : wpR P ops S dr (kind B) F (⟨some d, .next x false, ty, pos, aft, none⟩ :: rest) e w := by
  obtain ⟨v, w', hrun, hU, hv⟩ := run_next (P := P) (ty := ty) hI
  refine run3 (w' := w') (v := v) rfl (by simp [execOp, hx, hrun]) (fun h => by simp [hd] at h) ?_
  rcases hv with rfl | ⟨x, k', rfl, hk, hI', hC⟩
  · exact h0 w' hU
  · exact h1 w' k' _ _ hU hk hI' hC
end R
end Go.Proofs.Ytfdmndkoiheebaa

namespace Go.Proofs.Ytfdmndkoiheebaa
open Go Go.RowKit
theorem E.cutM {md : Mode} {P : Program} {N : Nat} {Q : Exit → Env → World → Prop} {next : Env → World → Prop} {e : Env} {w : World} {c : Code} (M : Env → World → Prop) (h : wpE md P N c (E.thn M Q) e w) (h2 : ∀ e w, M e w → next e w) : wpE md P N c (E.thn next Q) e w :=
  E.mono (fun x e w q => by cases x <;> first | exact h2 _ _ q | exact q) h
theorem MO.set {w w' : World} {v u : Value} {us : List Value} {xss : List (List Int)} {xs : List Int} {i : Nat} (h : MO w v us xss) (hi : i < xss.length) (hx : SInts w u xs) (hU : Upd (fun b => vblk v = some b) w w') (hO : Sl w' 35 1 v xss.length (us.set i u)) : MO w' v (us.set i u) (xss.set i xs) := by
  have hl := h.outer.len
  refine ⟨by rw [List.length_set]; exact hO, fun j hj => ?_⟩
  rw [List.length_set] at hj
  by_cases hij : i = j
  · subst hij
    exact ⟨u, by rw [List.getElem?_set_self (by omega)], by rw [List.getElem_set_self]; exact hx.upS hU h.outer (by decide)⟩
  · obtain ⟨y, h1, h2⟩ := h.elems j hj
    exact ⟨y, by rw [List.getElem?_set_ne hij]; exact h1, by rw [List.getElem_set_ne hij]; exact h2.upS hU h.outer (by decide)⟩
section
variable {xss : List (List Int)} {h : Int}
end
end Go.Proofs.Ytfdmndkoiheebaa

namespace Go.Proofs.Ytfdmndkoiheebaa
open Go Go.RowKit
theorem It.ne {w : World} {i r k clock b : Nat} {es : Array MapEntry} {ty : TypeId} {cs : Array Value} (h : It w i r es clock k) (hb : Blk w b ty cs) : b ≠ i := fun e => by
  obtain ⟨seen, h1, _⟩ := h.it
  subst e
  unfold Blk at hb
  rw [hb] at h1; cases h1
end Go.Proofs.Ytfdmndkoiheebaa
