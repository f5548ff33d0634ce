import Derived.Test.YtfdmndkoiheebaaZ16A1
namespace Go.Proofs.Ytfdmndkoiheebaa
open Go Go.RowKit
theorem sameWaters (w : World) {v1 v2 : Value} {us1 us2 : List Value} {xss yss : List (List Int)} (h1 : Mat w v1 us1 xss) (h2 : Mat w v2 us2 yss) (hl1 : xss.length < 1000000000) (hl2 : yss.length < 1000000000)
    (hx : ∀ xs ∈ xss, xs.length < 1000000000) (hy : ∀ ys ∈ yss, ys.length < 1000000000) :
    Calls Try.prog 65 #[v1, v2] w (Ret fun v w' => Ext w w' ∧ v = .bool (decide (xss = yss))) := by
  refine calls_E (args := [v1, v2]) 27 Try.func65 rfl rfl (by simp) ?_
  have hE : Ext w w := Upd.refl w
  refine E.seq ?_
  refine E.regionP rfl ?_
  refine R.assign ?_
  refine R.nil ?_
  refine E.seq ?_
  refine E.seq ?_
  refine E.regionP rfl ?_
  refine R.move ?_
  refine R.len Try.underlying22 h1.row rfl ?_
  refine R.move ?_
  refine R.len Try.underlying22 h2.row rfl ?_
  refine R.neq rfl rfl rfl ?_
  refine R.nil ?_
  refine E.cond rfl (fun hc10 => ?_) (fun hc10 => ?_)
  · replace hc10 := nT hc10
    refine E.seq ?_
    refine E.regionP rfl ?_
    refine R.assign ?_
    refine R.nil ?_
    refine E.ret ?_
    refine ret1 (.bool false) rfl rfl ⟨_, rfl, hE, ?_⟩
    have : xss ≠ yss := fun h => hc10 (by rw [h])
    simp [this]
  · replace hc10 := nF hc10
    refine E.skip ?_
    refine E.seq ?_
    refine E.seq ?_
    refine E.regionP rfl ?_
    refine R.assign ?_
    refine R.nil ?_
    refine E.block ?_
    refine E.loop (fun n e wr => ∃ k : Nat, n = xss.length - k ∧ k ≤ xss.length ∧ xss.take k = yss.take k ∧ Ext w wr ∧ Has e [(0, v1), (1, v2), (5, .int .i64 k)]) (xss.length) ?_ ?_
    · exact ⟨0, rfl, Nat.zero_le _, rfl, hE, rfl, rfl, rfl, trivial⟩
    · rintro n e wr ⟨k, rfl, hk, htk, hE, hH⟩
      obtain ⟨e, rfl⟩ := hH.ex
      clear hH
      refine E.seq ?_
      refine E.seq ?_
      refine E.regionP rfl ?_
      refine R.move ?_
      refine R.move ?_
      refine R.len Try.underlying22 h1.row rfl ?_
      refine R.lss rfl rfl rfl ?_
      refine R.nil ?_
      refine E.cond rfl (fun hc14 => ?_) (fun hc14 => ?_)
      · replace hc14 := dT hc14
        refine E.skip ?_
        refine E.seq ?_
        refine E.block ?_
        refine E.seq ?_
        refine E.regionW (fun _ b => b < wr.heap.size) [] mixed rfl (by kernel_rfl) ?_
        intro w1 hx1 hh1
        replace hE := hE.ext hx1
        have hEs : Ext w1 w1 := Upd.refl _
        have hS0 := hx1.size
        have hSs : ∀ b, b < w1.heap.size → b < wr.heap.size := fun b hb => by rw [hh1] at hb; exact hb
        have hSa : ∀ b, b < w.heap.size → b < wr.heap.size := fun b hb => by have := hE.size; rw [hh1] at this; omega
        refine R.move ?_
        refine R.move ?_
        refine R.ix Try.underlying22 t35 (by decide) h1.row rfl rfl (by omega) ?_
        obtain ⟨u20, hu20, hr20⟩ := h1.get k (by omega)
        refine R.ldE t35 h1.row hE rfl hu20 rfl hSa ?_
        refine R.move ?_
        refine R.move ?_
        refine R.ix Try.underlying22 t35 (by decide) h2.row rfl rfl (by omega) ?_
        obtain ⟨u24, hu24, hr24⟩ := h2.get k (by omega)
        refine R.ldE t35 h2.row hE rfl hu24 rfl hSa ?_
        refine R.callE2 ent56 (sameInts _ (hr20.ext hE) (hr24.ext hE) (hx _ (List.getElem_mem _)) (hy _ (List.getElem_mem _))) rfl rfl (fun _ _ hb => Nat.lt_of_lt_of_le hb (Nat.le_trans hS0 hEs.size)) ?_
        rintro v25 w2 hx2 rfl
        replace hE := hE.ext hx2
        replace hEs := hEs.ext hx2
        refine R.not rfl ?_
        refine R.nil ?_
        refine E.cond rfl (fun hc26 => ?_) (fun hc26 => ?_)
        · refine E.seq ?_
          refine E.regionP rfl ?_
          refine R.assign ?_
          refine R.nil ?_
          refine E.ret ?_
          refine ret1 (.bool false) rfl rfl ⟨_, rfl, hE, ?_⟩
          have : xss ≠ yss := fun h => (nT hc26) (by subst h; rfl)
          simp [this]
        · refine E.skip ?_
          refine E.regionP rfl ?_
          refine R.move ?_
          refine R.addN (n := 1) rfl rfl (by omega) ?_
          refine R.assign ?_
          refine R.nil ?_
          refine ⟨xss.length - (k + 1), by omega, k + 1, rfl, by omega, ?_, hE, rfl, rfl, rfl, trivial⟩
          rw [List.take_succ_eq_append_getElem (by omega), List.take_succ_eq_append_getElem (by omega), htk, nF hc26]
      · replace hc14 := dF hc14
        refine E.exit ?_
        refine E.seq ?_
        refine E.regionP rfl ?_
        refine R.assign ?_
        refine R.nil ?_
        refine E.ret ?_
        refine ret1 (.bool true) rfl rfl ⟨_, rfl, hE, ?_⟩
        obtain rfl : k = xss.length := by omega
        have hlen : xss.length = yss.length := by omega
        rw [List.take_length, hlen, List.take_length] at htk
        simp [htk]
theorem same (w : World) {v1 v2 : Value} {k1 k2 : Int} {us1 us2 : List Value} {xss yss : List (List Int)} (h1 : Mat w v1 us1 xss) (h2 : Mat w v2 us2 yss) (hl1 : xss.length < 1000000000) (hl2 : yss.length < 1000000000)
    (hx : ∀ xs ∈ xss, xs.length < 1000000000) (hy : ∀ ys ∈ yss, ys.length < 1000000000) :
    Calls Try.prog 28 #[.agg #[v1, .int .i64 k1], .agg #[v2, .int .i64 k2]] w (Ret fun v w' => Ext w w' ∧ v = .bool (decide (k1 = k2 ∧ xss = yss))) := by
  by_cases hk : k1 = k2
  · refine calls_E (args := [.agg #[v1, .int .i64 k1], .agg #[v2, .int .i64 k2]]) 17 Try.func28 rfl rfl (by simp) ?_
    have hE : Ext w w := Upd.refl w
    refine E.seq ?_
    refine E.regionP rfl ?_
    refine R.box rfl nofun ?_
    intro b2 w1 hb2 hx1 hB2
    replace hb2 := Nat.le_trans hE.size hb2
    replace hE := hE.ext hx1
    replace hB2 : Blk _ b2 24 #[_, _] := hB2
    refine R.box rfl nofun ?_
    intro b3 w2 hb3 hx2 hB3
    have ne2_3 : b2 ≠ b3 := by have := hB2.lt; omega
    replace hb3 := Nat.le_trans hE.size hb3
    replace hB2 := hB2.ext hx2
    replace hE := hE.ext hx2
    replace hB3 : Blk _ b3 24 #[_, _] := hB3
    refine R.assign ?_
    refine R.nil ?_
    refine E.seq ?_
    refine E.regionP rfl ?_
    refine R.fld fa24_1 rfl ?_
    refine R.loadB t3 hB2 rfl rfl rfl trivial ?_
    refine R.fld fa24_1 rfl ?_
    refine R.loadB t3 hB3 rfl rfl rfl trivial ?_
    refine R.eql (b := true) rfl rfl (decide_eq_true hk) ?_
    refine R.move ?_
    refine R.gT rfl rfl ?_
    refine R.fld fa24_0 rfl ?_
    refine R.gT rfl rfl ?_
    refine R.loadB t22 hB2 rfl rfl rfl trivial ?_
    refine R.gT rfl rfl ?_
    refine R.fld fa24_0 rfl ?_
    refine R.gT rfl rfl ?_
    refine R.loadB t22 hB3 rfl rfl rfl trivial ?_
    refine R.gT rfl rfl ?_
    refine R.callE2 ent65 (sameWaters _ (h1.ext hE) (h2.ext hE) hl1 hl2 hx hy) rfl rfl nofun ?_
    rintro v15 w3 hx3 rfl
    replace hB2 := hB2.ext hx3
    replace hB3 := hB3.ext hx3
    replace hE := hE.ext hx3
    refine R.pickT rfl ?_
    refine R.assign ?_
    refine R.nil ?_
    refine E.ret ?_
    refine ret1 (.bool (decide (xss = yss))) rfl rfl ⟨_, rfl, hE, ?_⟩
    simp [hk]
  · refine calls_E (args := [.agg #[v1, .int .i64 k1], .agg #[v2, .int .i64 k2]]) 17 Try.func28 rfl rfl (by simp) ?_
    have hE : Ext w w := Upd.refl w
    refine E.seq ?_
    refine E.regionP rfl ?_
    refine R.box rfl nofun ?_
    intro b2 w1 hb2 hx1 hB2
    replace hb2 := Nat.le_trans hE.size hb2
    replace hE := hE.ext hx1
    replace hB2 : Blk _ b2 24 #[_, _] := hB2
    refine R.box rfl nofun ?_
    intro b3 w2 hb3 hx2 hB3
    have ne2_3 : b2 ≠ b3 := by have := hB2.lt; omega
    replace hb3 := Nat.le_trans hE.size hb3
    replace hB2 := hB2.ext hx2
    replace hE := hE.ext hx2
    replace hB3 : Blk _ b3 24 #[_, _] := hB3
    refine R.assign ?_
    refine R.nil ?_
    refine E.seq ?_
    refine E.regionP rfl ?_
    refine R.fld fa24_1 rfl ?_
    refine R.loadB t3 hB2 rfl rfl rfl trivial ?_
    refine R.fld fa24_1 rfl ?_
    refine R.loadB t3 hB3 rfl rfl rfl trivial ?_
    refine R.eql (b := false) rfl rfl (decide_eq_false hk) ?_
    refine R.move ?_
    refine R.gF rfl rfl rfl ?_
    refine R.gF rfl rfl rfl ?_
    refine R.gF rfl rfl rfl ?_
    refine R.gF rfl rfl rfl ?_
    refine R.gF rfl rfl rfl ?_
    refine R.pickF rfl ?_
    refine R.assign ?_
    refine R.nil ?_
    refine E.ret ?_
    refine ret1 (.bool false) rfl rfl ⟨_, rfl, hE, ?_⟩
    simp [hk]
theorem few (w : World) {v : Value} {k : Int} {us : List Value} {xss : List (List Int)} (h : Mat w v us xss) (hl : xss.length ≤ 9223372036854775807) :
    Calls Try.prog 17 #[.agg #[v, .int .i64 k]] w (Ret fun r w' => Ext w w' ∧ r = .bool (decide ((∀ xs ∈ xss, xs.length ≤ 10) ∧ xss.length ≤ 32))) := by
  refine calls_E (args := [.agg #[v, .int .i64 k]]) 22 Try.func17 rfl rfl (by simp) ?_
  have hE : Ext w w := Upd.refl w
  refine E.seq ?_
  refine E.regionP rfl ?_
  refine R.box rfl nofun ?_
  intro b1 w1 hb1 hx1 hB1
  replace hb1 := Nat.le_trans hE.size hb1
  replace hE := hE.ext hx1
  replace hB1 : Blk _ b1 24 #[_, _] := hB1
  refine R.assign ?_
  refine R.nil ?_
  refine E.seq ?_
  refine E.seq ?_
  refine E.regionP rfl ?_
  refine R.assign ?_
  refine R.nil ?_
  refine E.block ?_
  refine E.loop (fun n e wr => ∃ i : Nat, n = xss.length - i ∧ i ≤ xss.length ∧ (∀ xs ∈ xss.take i, xs.length ≤ 10) ∧ Ext w wr ∧ Blk wr b1 24 #[v, .int .i64 k] ∧ Has e [(1, .pointer (some ⟨b1, 0, none⟩)), (3, .int .i64 i)]) (xss.length) ?_ ?_
  · exact ⟨0, rfl, Nat.zero_le _, by simp, hE, hB1, rfl, rfl, trivial⟩
  · rintro n e wr ⟨i, rfl, hi, hall, hE, hB1, hH⟩
    obtain ⟨e, rfl⟩ := hH.ex
    clear hH
    refine E.seq ?_
    refine E.seq ?_
    refine E.regionP rfl ?_
    refine R.move ?_
    refine R.fld fa24_0 rfl ?_
    refine R.loadB t22 hB1 rfl rfl rfl trivial ?_
    refine R.len Try.underlying22 h.row rfl ?_
    refine R.lss rfl rfl rfl ?_
    refine R.nil ?_
    refine E.cond rfl (fun hc8 => ?_) (fun hc8 => ?_)
    · replace hc8 := dT hc8
      refine E.skip ?_
      refine E.seq ?_
      refine E.block ?_
      refine E.seq ?_
      refine E.regionP rfl ?_
      refine R.fld fa24_0 rfl ?_
      refine R.loadB t22 hB1 rfl rfl rfl trivial ?_
      refine R.move ?_
      refine R.ix Try.underlying22 t35 (by decide) h.row rfl rfl (by omega) ?_
      obtain ⟨u15, hu15, hr15⟩ := h.get i (by omega)
      refine R.ld t35 (h.row.ext hE) rfl hu15 rfl (fun _ _ => trivial) ?_
      refine R.len Try.underlying35 hr15 rfl ?_
      refine R.gtr rfl rfl rfl ?_
      refine R.nil ?_
      refine E.cond rfl (fun hc17 => ?_) (fun hc17 => ?_)
      · replace hc17 := dT hc17
        refine E.seq ?_
        refine E.regionP rfl ?_
        refine R.assign ?_
        refine R.nil ?_
        refine E.ret ?_
        refine ret1 (.bool false) rfl rfl ⟨_, rfl, hE, ?_⟩
        have : ¬ ((∀ xs ∈ xss, xs.length ≤ 10) ∧ xss.length ≤ 32) := fun hh => by
          have := hh.1 xss[i] (List.getElem_mem _)
          omega
        simp [this]
      · replace hc17 := dF hc17
        refine E.skip ?_
        refine E.regionP rfl ?_
        refine R.move ?_
        refine R.addN (n := 1) rfl rfl (by omega) ?_
        refine R.assign ?_
        refine R.nil ?_
        refine ⟨xss.length - (i + 1), by omega, i + 1, rfl, by omega, ?_, hE, hB1, rfl, rfl, trivial⟩
        intro xs hxs
        rw [List.take_succ_eq_append_getElem (by omega)] at hxs
        rcases List.mem_append.1 hxs with hxs | hxs
        · exact hall xs hxs
        · simp at hxs; subst hxs; omega
    · replace hc8 := dF hc8
      refine E.exit ?_
      refine E.seq ?_
      refine E.regionP rfl ?_
      refine R.fld fa24_0 rfl ?_
      refine R.loadB t22 hB1 rfl rfl rfl trivial ?_
      refine R.len Try.underlying22 h.row rfl ?_
      refine R.leq rfl rfl rfl ?_
      refine R.assign ?_
      refine R.nil ?_
      refine E.ret ?_
      refine ret1 (.bool (decide ((xss.length : Int) ≤ 32))) rfl rfl ⟨_, rfl, hE, ?_⟩
      obtain rfl : i = xss.length := by omega
      rw [List.take_length] at hall
      have e1 : ((∀ xs ∈ xss, xs.length ≤ 10) ∧ xss.length ≤ 32) ↔ ((xss.length : Int) ≤ 32) := ⟨fun hh => by omega, fun hh => ⟨hall, by omega⟩⟩
      simp only [e1]
end Go.Proofs.Ytfdmndkoiheebaa

namespace Go.Proofs.Ytfdmndkoiheebaa
open Go Go.RowKit
def mget : List (Int × Int) → Int → Option Int
  | [], _ => none
  | (a, b) :: M, k => if k = a then some b else mget M k
def mset : List (Int × Int) → Int → Int → List (Int × Int)
  | [], k, v => [(k, v)]
  | (a, b) :: M, k, v => if k = a then (k, v) :: M else (a, b) :: mset M k v
theorem mget_mset (M : List (Int × Int)) (k v x : Int) : mget (mset M k v) x = if x = k then some v else mget M x := by
  induction M with
  | nil => simp [mset, mget]
  | cons p M ih =>
    obtain ⟨a, b⟩ := p
    by_cases h : k = a
    · subst h; simp only [mset, if_true, mget]; split <;> rfl
    · simp only [mset, if_neg h, mget, ih]
      by_cases h2 : x = a
      · subst h2; simp [Ne.symm h]
      · simp [h2]
def Reads (es : List MapEntry) (M : List (Int × Int)) : Prop := es.map (fun e => (e.key, e.val)) = M.map fun p => (Value.int .i64 p.1, Value.int .i64 p.2)
def MapI (w : World) (r : Nat) (M : List (Int × Int)) : Prop := ∃ es clock, w.heap[r]? = some (.map es clock) ∧ Reads es.toList M
theorem MapI.lt {w : World} {r : Nat} {M : List (Int × Int)} (h : MapI w r M) : r < w.heap.size := by obtain ⟨es, c, h, _⟩ := h; exact lt_of_get h
theorem MapI.up {X : Nat → Prop} {w w' : World} {r : Nat} {M : List (Int × Int)} (h : MapI w r M) (u : Upd X w w') (hx : ¬ X r) : MapI w' r M := by
  obtain ⟨es, c, h, hr⟩ := h; exact ⟨es, c, (u.blk r (lt_of_get h) hx).trans h, hr⟩
theorem MapI.ext {w w' : World} {r : Nat} {M : List (Int × Int)} (h : MapI w r M) (u : Ext w w') : MapI w' r M := h.up u id
theorem MapI.ne {w : World} {r b : Nat} {M : List (Int × Int)} {ty : TypeId} {cs : Array Value} (h : MapI w r M) (hb : Blk w b ty cs) : r ≠ b := by
  rintro rfl
  obtain ⟨es, c, h, _⟩ := h
  unfold Blk at hb
  rw [hb] at h
  cases h
theorem MapI.upT {w w' : World} {r b : Nat} {M : List (Int × Int)} {ty : TypeId} {cs : Array Value} (h : MapI w r M) (u : Upd (one b) w w') (hb : Blk w b ty cs) : MapI w' r M := h.up u (h.ne hb)
theorem findNow_reads {k : Int} : ∀ (es : List MapEntry) (M : List (Int × Int)) (i : Nat), Reads es M →
    ∃ r, Instr.findNow (.int .i64) (.int .i64 k) es i = some r ∧
      ((r = none ∧ mget M k = none ∧ mset M k = fun v => M ++ [(k, v)]) ∨
       (∃ j v, r = some (i + j, .int .i64 v) ∧ mget M k = some v ∧ j < es.length ∧ (∀ e, es[j]? = some e → e.key = .int .i64 k) ∧ ∀ u, mset M k u = M.set j (k, u))) := by
  intro es
  induction es with
  | nil =>
    intro M i h
    have : M = [] := by simpa [Reads] using h.symm
    subst this
    exact ⟨none, rfl, .inl ⟨rfl, rfl, rfl⟩⟩
  | cons x es ih =>
    intro M i h
    cases M with
    | nil => simp [Reads] at h
    | cons p M =>
      obtain ⟨a, b⟩ := p
      obtain ⟨xk, xv, xb⟩ := x
      simp only [Reads, List.map_cons, List.cons.injEq, Prod.mk.injEq] at h
      obtain ⟨⟨rfl, rfl⟩, h⟩ := h
      by_cases hk : k = a
      · subst hk
        refine ⟨some (i, .int .i64 b), by simp [Instr.findNow, Instr.sameNow], .inr ⟨0, b, rfl, by simp [mget], by simp, by simp, fun u => by simp [mset]⟩⟩
      · obtain ⟨r, hr, hc⟩ := ih M (i + 1) h
        have hk' : (k == a) = false := by simpa using hk
        refine ⟨r, by simp [Instr.findNow, Instr.sameNow, hk', hr], ?_⟩
        rcases hc with ⟨rfl, h1, h2⟩ | ⟨j, v, rfl, h1, h2, h3, h4⟩
        · exact .inl ⟨rfl, by simp [mget, hk, h1], by funext v; simp [mset, hk, congrFun h2 v]⟩
        · exact .inr ⟨j + 1, v, by simp; omega, by simp [mget, hk, h1], by simp; omega, by simpa using h3, fun u => by simp [mset, hk, h4]⟩
theorem checkKey_int {P : Program} {t : TypeId} {k : Int} {b : Bool} {n : Nat} (hu : P.underlying t = some (.int .i64)) (w : World) : (Instr.checkKey b (n + 1) t (.int .i64 k)).run P w = .ok () w := by
  simp [Instr.checkKey, underlying, hu]
theorem run_getMap {P : Program} {w : World} {r : Nat} {es : Array MapEntry} {c : Nat} (h : w.heap[r]? = some (.map es c)) : (getObj r).run P w = .ok (.map es c) w := by
  simp only [getObj, Sem.run, h]
theorem run_setMap {P : Program} {w : World} {r : Nat} {es : Array MapEntry} {c : Nat} {o : Obj} (h : w.heap[r]? = some (.map es c)) : (setObj r o).run P w = .ok () { w with heap := w.heap.setIfInBounds r o } := by
  simp only [setObj, Sem.run, h]
theorem run_lookup {P : Program} {w : World} {t kt et : TypeId} {r : Nat} {M : List (Int × Int)} {k : Int} {ok : Bool} (hu : P.underlying t = some (.map kt et)) (hk : P.underlying kt = some (.int .i64)) (hz : ∀ w, (zeroValue et).run P w = .ok (.int .i64 0) w) (h : MapI w r M) :
    (Instr.lookup t (.map (some r)) (.int .i64 k) ok).run P w = .ok (if ok then .tuple #[.int .i64 ((mget M k).getD 0), .bool (mget M k).isSome] else .int .i64 ((mget M k).getD 0)) w := by
  obtain ⟨es, c, he, hr⟩ := h
  obtain ⟨q, hq, hc⟩ := findNow_reads (k := k) es.toList M 0 hr
  have hck : (Instr.checkKey es.isEmpty 10000 kt (.int .i64 k)).run P w = .ok () w := checkKey_int (n := 9999) hk w
  rcases hc with ⟨rfl, h1, _⟩ | ⟨j, v, rfl, h1, _⟩
  · cases ok <;> simp [Instr.lookup, underlying, hu, run_getMap he, hck, Instr.findKey, hk, hq, hz, h1]
  · cases ok <;> simp [Instr.lookup, underlying, hu, run_getMap he, hck, Instr.findKey, hk, hq, h1]
theorem run_mapUpdate {P : Program} {w : World} {t kt et : TypeId} {r : Nat} {M : List (Int × Int)} {k v : Int} (hu : P.underlying t = some (.map kt et)) (hk : P.underlying kt = some (.int .i64)) (h : MapI w r M) :
    ∃ w', (Instr.mapUpdate t (.map (some r)) (.int .i64 k) (.int .i64 v)).run P w = .ok () w' ∧ Upd (one r) w w' ∧ w'.heap.size = w.heap.size ∧ (∀ c, c ≠ r → w'.heap[c]? = w.heap[c]?) ∧ MapI w' r (mset M k v) := by
  obtain ⟨es, c, he, hr⟩ := h
  obtain ⟨q, hq, hc⟩ := findNow_reads (k := k) es.toList M 0 hr
  have hck : (Instr.checkKey false 10000 kt (.int .i64 k)).run P w = .ok () w := checkKey_int (n := 9999) hk w
  have hset : ∀ o : Obj, (setObj r o).run P w = .ok () { w with heap := w.heap.setIfInBounds r o } := fun o => run_setMap he
  have hlt : r < w.heap.size := lt_of_get he
  have hupd : ∀ o : Obj, Upd (one r) w { w with heap := w.heap.setIfInBounds r o } ∧ ({ w with heap := w.heap.setIfInBounds r o } : World).heap.size = w.heap.size ∧ (∀ c, c ≠ r → ({ w with heap := w.heap.setIfInBounds r o } : World).heap[c]? = w.heap[c]?) := fun o =>
    ⟨⟨rfl, rfl, rfl, by simp, fun b _ hb => by
      show (w.heap.setIfInBounds r o)[b]? = _
      rw [Array.getElem?_setIfInBounds_ne (fun e => hb e.symm)]⟩, by simp, fun b hb => by
      show (w.heap.setIfInBounds r o)[b]? = _
      rw [Array.getElem?_setIfInBounds_ne (fun e => hb e.symm)]⟩
  have hget : ∀ o : Obj, ({ w with heap := w.heap.setIfInBounds r o } : World).heap[r]? = some o := fun o => by
    show (w.heap.setIfInBounds r o)[r]? = _
    simp [hlt]
  rcases hc with ⟨rfl, _, h2⟩ | ⟨j, u, rfl, _, hj, hkey, h4⟩
  · refine ⟨_, ?_, (hupd (.map (es.push { key := .int .i64 k, val := .int .i64 v, born := c }) (c + 1))).1, (hupd _).2.1, (hupd _).2.2, ?_⟩
    · simp [Instr.mapUpdate, underlying, hu, run_getMap he, hck, Instr.findKey, hk, hq, hset]
    · refine ⟨_, _, hget _, ?_⟩
      rw [congrFun h2 v]
      unfold Reads at hr ⊢
      simp [hr]
  · have hjs : j < es.size := by simpa using hj
    have hkj : es[j].key = .int .i64 k := hkey es[j] (by simp [hjs])
    refine ⟨_, ?_, (hupd (.map (es.modify j fun e => { e with key := .int .i64 k, val := .int .i64 v }) c)).1, (hupd _).2.1, (hupd _).2.2, ?_⟩
    · simp [Instr.mapUpdate, underlying, hu, run_getMap he, hck, Instr.findKey, hk, hq, hset, hjs, hkj, Instr.keyThatStays, Instr.sameBits]
    · refine ⟨_, _, hget _, ?_⟩
      rw [h4]
      unfold Reads at hr ⊢
      apply List.ext_getElem?
      intro i
      have hri := congrArg (fun l : List (Value × Value) => l[i]?) hr
      simp only [List.getElem?_map] at hri
      simp only [List.getElem?_map, List.getElem?_set, Array.toList_modify, List.getElem?_modify]
      have hlen : es.toList.length = M.length := by simpa using congrArg List.length hr
      by_cases hij : j = i
      · subst hij
        have hjM : j < M.length := by rw [← hlen]; exact hj
        simp [hjs, hjM]
      · simp only [hij, if_false]
        rw [← hri]
        simp
namespace R
variable {P : Program} {ops : Array Oper} {S : Bool → Nat → Prop} {dr : Bool} {B : List Nat} {F : Env → World → Prop} {rest : List Oper} {e : Env} {w : World}
variable {d : Tmp} {od : Option Tmp} {ty : TypeId} {pos : String} {aft : Array Edge}
theorem makeMap {t : TypeId} (hag : dr = true → ∀ c b, S c b → b < w.heap.size)
    (h : ∀ b w', w.heap.size ≤ b → Ext w w' → MapI w' b [] → wpR P ops S dr (kind B) F rest (upd e d (.map (some b))) w') : wpR P ops S dr (kind B) F (⟨some d, .makeMap t none, ty, pos, aft, none⟩ :: rest) e w := by
  have hE : Ext w (w.alloc (.map #[] 0)) := Upd.push _ _
  refine run2 (w' := w.alloc (.map #[] 0)) (v := .map (some w.heap.size)) rfl ?_ (fun hd c => hE.agree fun b hb => ⟨hag hd c b hb, id⟩) (h _ _ (Nat.le_refl _) hE ⟨#[], 0, by show (w.heap.push _)[w.heap.size]? = _; simp, rfl⟩)
  simp [execOp, Instr.makeMap]
theorem look {t kt et : TypeId} {x y : Operand} {r : Nat} {M : List (Int × Int)} {k : Int} {by_ : Nat} (hu : P.underlying t = some (.map kt et)) (hk : P.underlying kt = some (.int .i64)) (hz : Ty P et 1 by_ false (.int .i64 0)) (hM : MapI w r M) (hx : ev e x = .map (some r)) (hy : ev e y = .int .i64 k) (hS : S false r)
    (h : wpR P ops S dr (kind B) F rest (upd e d (.int .i64 ((mget M k).getD 0))) w) : wpR P ops S dr (kind B) F (⟨some d, .lookup t x y false, ty, pos, aft, none⟩ :: rest) e w := by
  refine quiet _ rfl (fun w' ha => ?_) h
  have hM' : MapI w' r M := by obtain ⟨es, c, he, hr⟩ := hM; exact ⟨es, c, (ha r hS).trans he, hr⟩
  have := run_lookup (ok := false) (k := k) hu hk hz.zero hM'
  simp [execOp, hx, hy, this]
theorem lookOk {t kt et : TypeId} {x y : Operand} {r : Nat} {M : List (Int × Int)} {k : Int} {by_ : Nat} (hu : P.underlying t = some (.map kt et)) (hk : P.underlying kt = some (.int .i64)) (hz : Ty P et 1 by_ false (.int .i64 0)) (hM : MapI w r M) (hx : ev e x = .map (some r)) (hy : ev e y = .int .i64 k) (hS : S false r)
    (h : wpR P ops S dr (kind B) F rest (upd e d (.tuple #[.int .i64 ((mget M k).getD 0), .bool (mget M k).isSome])) w) : wpR P ops S dr (kind B) F (⟨some d, .lookup t x y true, ty, pos, aft, none⟩ :: rest) e w := by
  refine quiet _ rfl (fun w' ha => ?_) h
  have hM' : MapI w' r M := by obtain ⟨es, c, he, hr⟩ := hM; exact ⟨es, c, (ha r hS).trans he, hr⟩
  have := run_lookup (ok := true) (k := k) hu hk hz.zero hM'
  simp [execOp, hx, hy, this]
theorem mapSet {t kt et : TypeId} {x y z : Operand} {r : Nat} {M : List (Int × Int)} {k v : Int} (hu : P.underlying t = some (.map kt et)) (hk : P.underlying kt = some (.int .i64)) (hM : MapI w r M) (hx : ev e x = .map (some r)) (hy : ev e y = .int .i64 k) (hv : ev e z = .int .i64 v) (hag : dr = true → ¬ S false r)
    (h : ∀ w', Upd (one r) w w' → w'.heap.size = w.heap.size → MapI w' r (mset M k v) → wpR P ops S dr (kind B) F rest (updo e od undef) w') : wpR P ops S dr (kind B) F (⟨od, .mapUpdate t x y z, ty, pos, aft, none⟩ :: rest) e w := by
  obtain ⟨w', hrun, hU, hs, ho, hM'⟩ := run_mapUpdate (v := v) hu hk hM (k := k)
  refine runs (w' := w') rfl ?_ (fun hd c hc => ho c (fun e => hag hd (e ▸ hc))) (h w' hU hs hM')
  simp [execOp, hx, hy, hv, hrun]
end R
end Go.Proofs.Ytfdmndkoiheebaa
