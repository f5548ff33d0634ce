/- apart -/
import Derived.Test.YtfdmndkoiheebaaC10
namespace Go.Proofs.Ytfdmndkoiheebaa
open Go Go.RowKit


/-- append to a slice in a block of one's own: in place or elsewhere; the block keeps its size. -/
theorem R.appendB {P : Program} {ops : Array Oper} {S : Bool → Nat → Prop} {dr : Bool} {B : List Nat} {F : Env → World → Prop} {rest : List Oper} {e : Env} {w : World} {d : Tmp} {ty : TypeId} {pos : String} {aft : Array Edge} {x y : Operand} {t tx el el' : TypeId} {by_ : Nat} {g : Bool} {z : Value}
    (hu : P.underlying t = some (.slice el)) (hux : P.underlying tx = some (.slice el')) (hk : Ty P el 1 by_ g z) (hz : z.cells.size = 1) {b off n c m : Nat} {cur : Array Value} {u : Value} {news : List Value} (hB : Blk w b el cur) (hr : Row w 1 u m news) (h1 : ∀ x ∈ news, x.oneCell' = true)
    (hx : ev e x = .slice (some ⟨b, off, none⟩) n c) (hy : ev e y = u) (hnc : n ≤ c) (hfit : off + c ≤ cur.size) (hb : (n + m) * by_ ≤ 140737488355328) (hnm : n + m ≤ 9223372036854775807) (hag : dr = true → ∀ x, S false x → x < w.heap.size ∧ x ≠ b)
    (h : ∀ v' w' cur', Upd (one b) w w' → Blk w' b el cur' → cur'.size = cur.size → v'.oneCell' = true → wpR P ops S dr (kind B) F rest (upd e d v') w') :
    wpR P ops S dr (kind B) F (⟨some d, .call { callee := .builtin .append, args := #[x, y], argTypes := #[t, tx] }, ty, pos, aft, none⟩ :: rest) e w := by
  by_cases hroom : n + m ≤ c
  · have hlr := hr.len
    refine R.appendIn hu hux hk (by decide) hB hr h1 hx hy hroom (by omega) (fun hd hs => (hag hd b hs).2 rfl) (fun w' hU hB' _ => h _ w' _ hU hB' (put_size (by omega)) rfl)
  · have hs : Sl w el 1 (.slice (some ⟨b, off, none⟩) n c) n ((cur.toList.drop off).take n) :=
      ⟨_, _, rfl, hnc, by simp; omega, .inr ⟨b, off, cur, rfl, hB, by omega, fun j hj => by
        simp only [List.length_take, List.length_drop, Array.length_toList] at hj
        rw [List.getElem?_take, if_pos (by omega), List.getElem?_drop]; simp⟩⟩
    refine R.append hu hux hk (by decide) hz hs hr h1 hx hy hb hnm (fun hd x hx => ⟨(hag hd x hx).1, fun e => by simp [vblk] at e; exact (hag hd x hx).2 e.symm⟩) (fun v' w' hU hS hd => ?_)
    rcases hd with ⟨_, h2, _⟩ | ⟨b', h1, h2, hE⟩
    · exact absurd h2 hroom
    · exact h v' w' cur (Ext.upd hE) (hB.ext hE) rfl hS.one
theorem R.ixV {P : Program} {ops : Array Oper} {S : Bool → Nat → Prop} {dr : Bool} {B : List Nat} {F : Env → World → Prop} {rest : List Oper} {e : Env} {w : World} {d : Tmp} {ty : TypeId} {pos : String} {aft : Array Edge} {x i : Operand} {t el : TypeId} {k c n m by_ : Nat} {g : Bool} {z : Value} {p : Addr} {ik : IntKind} (hu : P.underlying t = some (.slice el)) (hk : Ty P el k by_ g z)
    (hx : ev e x = .slice (some p) n c) (hi : ev e i = .int ik (m : Nat)) (h1 : m < n)
    (h : wpR P ops S dr (kind B) F rest (upd e d (elemPtr (.slice (some p) n c) (m * k))) w) : wpR P ops S dr (kind B) F (⟨some d, .indexAddr t x i, ty, pos, aft, none⟩ :: rest) e w :=
  R.idxV hu hk hx hi (by omega) (by omega) (by simpa [elemPtr] using h)
/-- A store into an element of a slice in a block of one's own. -/
theorem R.stB {P : Program} {ops : Array Oper} {S : Bool → Nat → Prop} {dr : Bool} {B : List Nat} {F : Env → World → Prop} {rest : List Oper} {e : Env} {w : World} {od : Option Tmp} {ty : TypeId} {pos : String} {aft : Array Edge} {x y : Operand} {t tb : TypeId} {by_ n c j b off : Nat} {z u : Value} {cur : Array Value}
    (hk : Ty P t 1 by_ false z) (hB : Blk w b tb cur) (hx : ev e x = elemPtr (.slice (some ⟨b, off, none⟩) n c) (j * 1)) (hy : ev e y = u) (h1 : u.oneCell' = true) (hj : off + j < cur.size) (hag : dr = true → ¬ S false b)
    (h : ∀ w', Upd (one b) w w' → w'.heap.size = w.heap.size → Blk w' b tb (cur.setIfInBounds (off + j) u) → wpR P ops S dr (kind B) F rest (updo e od undef) w') : wpR P ops S dr (kind B) F (⟨od, .store t x y, ty, pos, aft, none⟩ :: rest) e w := by
  simp only [elemPtr, add_none, Nat.mul_one] at hx
  exact R.store hk hB hx hy h1 hj hag h
/-- Stacks of one's own, from the i-th on in one array. -/
structure PA (w : World) (v : Value) (n : Nat) (us : List Value) (ba i : Nat) : Prop where
  outer : Sl w 35 1 v n us
  elems : ∀ j, i ≤ j → j < n → ∃ off len cap cur, us[j]? = some (.slice (some ⟨ba, off, none⟩) len cap) ∧ Blk w ba 3 cur ∧ off + cap ≤ cur.size ∧ len ≤ cap ∧ len ≤ 10
section
variable {w w' w0 : World} {v : Value} {n ba i : Nat} {us : List Value} {X : Nat → Prop}
theorem PA.up (h : PA w v n us ba i) (u : Upd X w w') (hv : ∀ x, vblk v = some x → ¬ X x) (hb : i < n → ¬ X ba) : PA w' v n us ba i :=
  ⟨h.outer.up u hv, fun j hi hj => by
    obtain ⟨off, len, cap, cur, h1, h2, h3⟩ := h.elems j hi hj
    exact ⟨off, len, cap, cur, h1, h2.up u (hb (by omega)), h3⟩⟩
theorem PA.ext (h : PA w v n us ba i) (u : Ext w w') : PA w' v n us ba i := h.up u (fun _ _ => id) (fun _ => id)
theorem PA.upT {b : Nat} {cs : Array Value} {ty : TypeId} (h : PA w v n us ba i) (u : Upd (one b) w w') (hb : Blk w b ty cs) (hne : 35 ≠ ty ∧ 3 ≠ ty) : PA w' v n us ba i :=
  ⟨h.outer.upT u hb hne.1, fun j hi hj => by
    obtain ⟨off, len, cap, cur, h1, h2, h3⟩ := h.elems j hi hj
    exact ⟨off, len, cap, cur, h1, h2.upT u hb hne.2, h3⟩⟩
/-- The array is written. -/
theorem PA.upA {cur cur' : Array Value} (h : PA w v n us ba i) (u : Upd (one ba) w w') (hB : Blk w ba 3 cur) (hB' : Blk w' ba 3 cur') (hs : cur'.size = cur.size) : PA w' v n us ba i :=
  ⟨h.outer.upT u hB (by decide), fun j hi hj => by
    obtain ⟨off, len, cap, cur2, h1, h2, h3⟩ := h.elems j hi hj
    obtain ⟨rfl, _⟩ := h2.inj hB
    exact ⟨off, len, cap, cur', h1, hB', by omega⟩⟩
theorem PA.step {u0 : Value} (h : PA w v n us ba i) (u : Upd (fun b => vblk v = some b) w w') (ho : Sl w' 35 1 v n (us.set i u0)) : PA w' v n (us.set i u0) ba (i + 1) :=
  ⟨ho, fun j hi hj => by
    obtain ⟨off, len, cap, cur2, h1, h2, h3⟩ := h.elems j (by omega) hj
    exact ⟨off, len, cap, cur2, by rw [List.getElem?_set_ne (by omega)]; exact h1, h2.upS u h.outer (by decide), h3⟩⟩
end
theorem YO.pa {wa w : World} {v : Value} {h : Int} {xss : List (List Int)} (y : YO wa w v h xss) (hx : ∀ xs ∈ xss, xs.length ≤ 10) : ∃ us ba, PA w v xss.length us ba 0 ∧ wa.heap.size ≤ ba ∧ Fresh wa v := by
  rcases y with ⟨rfl, _, rfl⟩ | ⟨H, ba, us, cur, rfl, hP, hf, hb⟩
  · exact ⟨[], wa.heap.size, ⟨Sl.nil _ _ _, fun j _ h => by simp at h⟩, Nat.le_refl _, Fresh.nil _⟩
  · refine ⟨us, ba, ⟨hP.outer, fun j _ hj => ?_⟩, hb, hf⟩
    obtain ⟨h1, h2, h3⟩ := hP.elems j hj
    have := seg_le (H := H) hj
    have := hP.size
    exact ⟨_, _, _, cur, h1, hP.all, by omega, h2, hx _ (List.getElem_mem hj)⟩
/-- Blocks of integers, and of rows, that were made since wa. -/
def X34 (wa w : World) (x : Nat) : Prop := wa.heap.size ≤ x ∧ ∃ cur, Blk w x 3 cur ∨ Blk w x 35 cur
theorem Sl.blk {w : World} {ty : TypeId} {k n b : Nat} {v : Value} {cs : List Value} (h : Sl w ty k v n cs) (e : vblk v = some b) : ∃ cur, Blk w b ty cur := by
  obtain ⟨a, cap, rfl, _, _, h | ⟨b', off, cur, rfl, hb, _⟩⟩ := h
  · obtain ⟨rfl, _⟩ := h; simp [vblk] at e
  · simp [vblk] at e; subst e; exact ⟨cur, hb⟩
/-- Variables: blocks of other types. -/
def XB (w : World) (x : Nat) : Prop := ∃ ty cs, Blk w x ty cs ∧ 35 ≠ ty ∧ 3 ≠ ty
/-- Of the old blocks at most variables have changed. -/
abbrev Keep (wa w : World) : Prop := Upd (XB wa) wa w
theorem Keep.upT {wa w w' : World} {b : Nat} {cs : Array Value} {ty : TypeId} (h : Keep wa w) (u : Upd (one b) w w') (hb : Blk w b ty cs) (hne : 35 ≠ ty ∧ 3 ≠ ty) : Keep wa w' := h.trans u fun x hx e => by
  have e1 : x = b := e
  subst e1
  by_cases hq : XB wa x
  · exact hq
  · exact ⟨ty, cs, (h.blk x hx hq).symm.trans hb, hne⟩
theorem Upd.upT {wa w w' : World} {b : Nat} {cs : Array Value} {ty : TypeId} (h : Keep wa w) (u : Upd (one b) w w') (hb : Blk w b ty cs) (hne : 35 ≠ ty ∧ 3 ≠ ty) : Keep wa w' := Keep.upT h u hb hne
theorem Keep.up34 {wa w w' : World} (h : Keep wa w) (u : Upd (X34 wa w) w w') : Keep wa w' := h.trans u fun x hx e => by have := e.1; omega
theorem Sl.keep {wa w : World} {ty : TypeId} {k n : Nat} {v : Value} {cs : List Value} (h : Sl wa ty k v n cs) (hK : Keep wa w) (ht : ty = 35 ∨ ty = 3) : Sl w ty k v n cs := h.up hK fun b e hx => by
  obtain ⟨cur, hb⟩ := h.blk e
  obtain ⟨t, c, hb', h1, h2⟩ := hx
  have e := (hb.inj hb').2
  rcases ht with rfl | rfl
  · exact h1 e
  · exact h2 e
theorem LentM.keep {wa w : World} {v : Value} {xss : List (List Int)} (h : LentM wa v xss) (hK : Keep wa w) : LentM w v xss := by
  obtain ⟨v0, us, ms, h1, h2, h3, h4⟩ := h
  exact ⟨v0, us, ms, h1.keep hK (.inl rfl), h2, ⟨h3.1, fun i hi => let ⟨x, a, y, c, d⟩ := h3.2 i hi; ⟨x, a, y, c.keep hK (.inr rfl), d⟩⟩, ⟨h4.1, fun i hi => let ⟨x, a, c⟩ := h4.2 i hi; ⟨x, a, c.keep hK (.inr rfl)⟩⟩⟩
theorem Blk.up34 {wa w w' : World} {b : Nat} {ty : TypeId} {cs : Array Value} (h : Blk w b ty cs) (u : Upd (X34 wa w) w w') (hne : ty ≠ 3 ∧ ty ≠ 35) : Blk w' b ty cs := h.up u fun ⟨_, cur, h'⟩ => by
  rcases h' with h' | h'
  · exact hne.1 (h.inj h').2
  · exact hne.2 (h.inj h').2
theorem MO.eq {w : World} {v : Value} {us : List Value} {xss : List (List Int)} (h : MO w v us xss) : ∃ us, Mat w v us xss := ⟨us, h.mat⟩
/-- Memory has grown. -/
structure Grow (w0 w : World) : Prop where
  le : w0.heap.size ≤ w.heap.size
theorem Grow.ext {X : Nat → Prop} {w0 w w' : World} (h : Grow w0 w) (u : Upd X w w') : Grow w0 w' := ⟨Nat.le_trans h.le u.size⟩
theorem Grow.upT {w0 w w' : World} {b : Nat} {cs : Array Value} {ty : TypeId} (h : Grow w0 w) (u : Upd (one b) w w') (_ : Blk w b ty cs) (_ : 1 = 1) : Grow w0 w' := h.ext u
/-- Rows of rows that were made since w0. -/
structure MOF (w0 w : World) (v : Value) (us : List Value) (xss : List (List Int)) : Prop where
  mo : MO w v us xss
  f : Fresh w0 v
  fs : ∀ u ∈ us, Fresh w0 u
section
variable {w0 w w' : World} {v : Value} {us : List Value} {xss : List (List Int)} {X : Nat → Prop}
theorem MOF.outer (h : MOF w0 w v us xss) : Sl w 35 1 v xss.length us := h.mo.outer
theorem MOF.ext (h : MOF w0 w v us xss) (u : Ext w w') : MOF w0 w' v us xss := ⟨h.mo.ext u, h.f, h.fs⟩
theorem MOF.upT {b : Nat} {cs : Array Value} {ty : TypeId} (h : MOF w0 w v us xss) (u : Upd (one b) w w') (hb : Blk w b ty cs) (hne : 35 ≠ ty ∧ 3 ≠ ty) : MOF w0 w' v us xss := ⟨h.mo.upT u hb hne, h.f, h.fs⟩
theorem MOF.nil (w0 w : World) : MOF w0 w (.slice none 0 0) [] [] := ⟨MO.nil _, Fresh.nil _, by simp⟩
theorem MOF.keep (h : MOF w0 w v us xss) (u : Upd X w w') (hx : ∀ x, X x → x < w0.heap.size) : MOF w0 w' v us xss :=
  ⟨⟨h.mo.outer.up u fun b e x => by have := hx b x; have := h.f b e; omega, fun i hi => by
    obtain ⟨y, h1, h2⟩ := h.mo.elems i hi
    exact ⟨y, h1, h2.up u fun b e x => by have := hx b x; have := h.fs y (List.mem_of_getElem? h1) b e; omega⟩⟩, h.f, h.fs⟩
theorem MOF.snoc {v' u : Value} {xs : List Int} (h : MOF w0 w v us xss) (hx : SInts w u xs) (hf : Fresh w0 u) (hfv : Fresh w0 v') (hU : Upd (fun b => vblk v = some b) w w') (hO : Sl w' 35 1 v' (xss.length + 1) (us ++ [u])) : MOF w0 w' v' (us ++ [u]) (xss ++ [xs]) :=
  ⟨MO.snoc h.mo hx hU hO, hfv, fun y hy => by
    rcases List.mem_append.1 hy with hy | hy
    · exact h.fs y hy
    · simp at hy; subst hy; exact hf⟩
end

set_option maxHeartbeats 1600000 in
theorem apart_ (w wa : World) {va vb : Value} {ha hb : Int} {xss yss : List (List Int)} (hK : Keep wa w) (hY : YO wa w va ha xss) (hL0 : LentM wa vb yss) (hlx : xss.length < 1000000) (hly : yss.length < 1000000) (hx : ∀ xs ∈ xss, xs.length ≤ 10) (hy : ∀ xs ∈ yss, xs.length < 1000000) :
    Calls Try.prog 34 #[.agg #[va, .int .i64 ha], .agg #[vb, .int .i64 hb]] w (Ret fun r w' => Upd (X34 wa w) w w' ∧ r = .bool true) := by
  obtain ⟨us0, ba, hA0, hba, hfa⟩ := hY.pa hx
  have hA := hA0
  obtain ⟨us, hm⟩ := (hL0.keep hK).mat
  have hvl := fun x h => hA0.outer.blk_lt (b := x) h
  have hbl : 0 < xss.length → ba < w.heap.size := fun h => by
    obtain ⟨_, _, _, _, _, h2, _⟩ := hA0.elems 0 (Nat.le_refl _) h
    exact h2.lt
  have hX : ∀ x, (0 < xss.length ∧ x = ba) ∨ vblk va = some x → X34 wa w x := fun x h => by
    rcases h with ⟨h0, rfl⟩ | h
    · obtain ⟨_, _, _, cur, _, h2, _⟩ := hA0.elems 0 (Nat.le_refl _) h0
      exact ⟨hba, cur, .inl h2⟩
    · refine ⟨hfa x h, ?_⟩
      obtain ⟨a, cap, rfl, _, _, h3 | ⟨b', off, cur, rfl, hb, _⟩⟩ := hA0.outer
      · obtain ⟨rfl, _⟩ := h3; simp [vblk] at h
      · simp [vblk] at h; subst h; exact ⟨cur, .inr hb⟩
  refine calls_E (args := [.agg #[va, .int .i64 ha], .agg #[vb, .int .i64 hb]]) 67 Try.func34 rfl rfl (by simp) ?_
  have hE : Ext w w := Upd.refl w
  refine E.seq ?_
  refine E.regionP rfl ?_  -- region 0
  refine R.box rfl nofun ?_  -- 2 := box 24 ('tmp', 0)
  intro b2 w1 hb2 hx1 hB2
  replace hb2 := Nat.le_trans hE.size hb2
  replace hA := hA.ext hx1
  replace hE := hE.ext hx1
  replace hB2 : Blk _ b2 24 #[va, .int .i64 ha] := hB2
  refine R.box rfl nofun ?_  -- 3 := box 24 ('tmp', 1)
  intro b3 w2 hb3 hx2 hB3
  have ne2_3 : b2 ≠ b3 := by have := hB2.lt; omega
  replace hb3 := Nat.le_trans hE.size hb3
  replace hA := hA.ext hx2
  replace hB2 := hB2.ext hx2
  replace hE := hE.ext hx2
  replace hB3 : Blk _ b3 24 #[vb, .int .i64 hb] := hB3
  refine R.assign ?_  -- 4 := assign ('const', ('bool', ('false',)))
  refine R.nil ?_
  refine E.seq ?_
  refine E.regionP rfl ?_  -- region 1
  refine R.fld fa24_1 rfl ?_  -- 10 := fieldAddr 24 ('tmp', 3) 1
  refine R.loadB t3 hB3 rfl rfl rfl trivial ?_  -- 11 := load 3 ('tmp', 10)
  refine R.build (build24 rfl rfl) rfl ?_  -- 12 := build 24 [('tup', 0, ('const', ('slice', ('none',), 0, 0))), ('tup', 1, ('tmp', 11))]
  refine R.alloc t24 nofun ?_  -- 5 := alloc 24
  intro b5 w3 hb5 hx3 hB5
  have ne2_5 : b2 ≠ b5 := by have := hB2.lt; omega
  have ne3_5 : b3 ≠ b5 := by have := hB3.lt; omega
  replace hb5 := Nat.le_trans hE.size hb5
  replace hA := hA.ext hx3
  replace hB2 := hB2.ext hx3
  replace hB3 := hB3.ext hx3
  replace hE := hE.ext hx3
  replace hB5 : Blk _ b5 24 #[.slice none 0 0, .int .i64 0] := hB5
  refine R.storeA t24 hB5 rfl rfl rfl rfl (ones2 rfl rfl) nofun ?_  -- None := store 24 ('tmp', 5) ('tmp', 12)
  intro w4 hU4 hs4 hN4
  replace hA := hA.upT hU4 hB5 (by decide)
  replace hB2 := hB2.up hU4 (fun h => ne2_5 h)
  replace hB3 := hB3.up hU4 (fun h => ne3_5 h)
  replace hE := hE.own hU4 hb5
  replace hB5 : Blk _ b5 24 #[.slice none 0 0, .int .i64 hb] := hN4
  clear hN4
  refine R.nil ?_
  refine E.seq ?_
  refine E.seq ?_
  refine E.regionP rfl ?_  -- region 2
  refine R.fld fa24_0 rfl ?_  -- 13 := fieldAddr 24 ('tmp', 3) 0
  refine R.loadB t22 hB3 rfl rfl rfl trivial ?_  -- 14 := load 22 ('tmp', 13)
  refine R.len Try.underlying22 hm.row rfl ?_  -- 15 := call {'callee': ('builtin', ('len',)), 'args': [('tmp', 14)], 'argTypes': [22]}
  refine R.move ?_  -- 16 := move ('const', ('int', ('i64',), 0))
  refine R.nil ?_
  refine E.block ?_  -- block 0
  refine E.loop (fun n e wr => ∃ (i : Nat) (ov : Value) (us1 : List Value), n = yss.length - i ∧ i ≤ yss.length ∧ Ext w wr ∧ PA wr va xss.length us0 ba 0 ∧ MOF w wr ov us1 (yss.take i) ∧ Blk wr b2 24 #[va, .int .i64 ha] ∧ Blk wr b3 24 #[vb, .int .i64 hb] ∧ Blk wr b5 24 #[ov, .int .i64 hb] ∧ Has e [(2, .pointer (some ⟨b2, 0, none⟩)), (3, .pointer (some ⟨b3, 0, none⟩)), (5, .pointer (some ⟨b5, 0, none⟩)), (14, vb), (15, .int .i64 yss.length), (16, .int .i64 i)]) (yss.length) ?_ ?_
  · exact ⟨0, _, [], rfl, Nat.zero_le _, hE, hA, MOF.nil _ _, hB2, hB3, hB5, rfl, rfl, rfl, rfl, rfl, rfl, trivial⟩
  · rintro n e wr ⟨i, ov, us1, rfl, hi, hE, hA, hM, hB2, hB3, hB5, hH⟩
    obtain ⟨e, rfl⟩ := hH.ex
    clear hH
    refine E.seq ?_
    refine E.regionP rfl ?_  -- region 3
    refine R.lss rfl rfl rfl ?_  -- 17 := binOp ('lss',) 3 ('tmp', 16) ('tmp', 15) 3
    refine R.nil ?_
    refine E.seq ?_
    refine E.cond rfl (fun hc17 => ?_) (fun hc17 => ?_)  -- cond t17
    · replace hc17 := dT hc17
      have hf := hM.f
      have hz := hE.size
      have hyi := hy yss[i] (List.getElem_mem _)
      have hmin : min i yss.length = i := by omega
      refine E.skip ?_
      refine E.seq ?_
      refine E.block ?_  -- block 1
      refine E.seq ?_
      refine E.regionP rfl ?_  -- region 4
      refine R.ix Try.underlying22 t35 (by decide) hm.row rfl rfl (by omega) ?_  -- 18 := indexAddr 22 ('tmp', 14) ('tmp', 16)
      obtain ⟨u19, hu19, hr19⟩ := hm.get i (by omega)
      refine R.ld t35 (hm.row.ext hE) rfl hu19 rfl (fun _ _ => trivial) ?_  -- 19 := load 35 ('tmp', 18)
      refine R.assign ?_  -- 7 := assign ('tmp', 19)
      refine R.nil ?_
      have hW0 := hE.size
      refine E.regionF (fun c x => x < wr.heap.size ∧ (c = false → x ≠ b5 ∧ vblk ov ≠ some x)) [21] [24] mixed rfl (by kernel_rfl) (fun _ _ h => h.1) ?_  -- region 5
      intro w5 hx5 hh5
      replace hA := hA.ext hx5
      replace hM := hM.ext hx5
      replace hB2 := hB2.ext hx5
      replace hB3 := hB3.ext hx5
      replace hB5 := hB5.ext hx5
      replace hE := hE.ext hx5
      have hEs : Ext w5 w5 := Upd.refl _
      have hS0 := hx5.size
      have hSB : ∀ b, b < w5.heap.size → b < wr.heap.size ∧ (true = false → (fun x => x ≠ b5 ∧ vblk ov ≠ some x) b) := fun b hb => ⟨by rw [hh5] at hb; exact hb, nofun⟩
      have hSA : ∀ b, b < w5.heap.size → (fun x => x ≠ b5 ∧ vblk ov ≠ some x) b → b < wr.heap.size ∧ (false = false → (fun x => x ≠ b5 ∧ vblk ov ≠ some x) b) := fun b hb h => ⟨by rw [hh5] at hb; exact hb, fun _ => h⟩
      have hSO : ∀ b, b < w.heap.size → b < wr.heap.size ∧ (false = false → (fun x => x ≠ b5 ∧ vblk ov ≠ some x) b) := fun b hb => hSA b (Nat.lt_of_lt_of_le hb hE.size) (⟨fun e => by omega, fun e => by have := hf b e; omega⟩)
      have hAs := hA
      have hMs := hM
      have hB2s := hB2
      have hB3s := hB3
      have hB5s := hB5
      refine G.q rfl (Nat.le_of_ble_eq_true rfl) ?_
      refine R.fld fa24_0 rfl ?_  -- 20 := fieldAddr 24 ('tmp', 5) 0
      refine R.nil ?_
      refine G.q rfl (Nat.le_of_ble_eq_true rfl) ?_
      refine R.loadB t22 (hB5s.ext hEs) rfl rfl rfl (hSB b5 hB5s.lt) ?_  -- 21 := load 22 ('tmp', 20)
      refine R.nil ?_
      refine G.buildSlice [] Try.underlying35 t3 rfl rfl (by simp) (by simp) ?_  -- 22 := buildSlice 35 0 []
      intro w6 b22 K6 hx6 hb22 hn22 hK6 hk22 hS22
      have hn022 := hb22
      replace hb22 := Nat.le_trans hW0 hb22
      replace hA := hA.ext hx6
      replace hM := hM.ext hx6
      replace hB2 := hB2.ext hx6
      replace hB3 := hB3.ext hx6
      replace hB5 := hB5.ext hx6
      replace hE := hE.ext hx6
      replace hEs := hEs.ext hx6
      refine G.q rfl (Nat.le_of_ble_eq_true rfl) ?_
      refine R.move ?_  -- 23 := move ('tmp', 7)
      refine R.nil ?_
      refine G.l rfl rfl (.inl rfl) (Nat.le_of_ble_eq_true rfl) ?_
      intro w7 hx7
      replace hA := hA.ext hx7
      replace hM := hM.ext hx7
      replace hS22 := hS22.ext hx7
      replace hB2 := hB2.ext hx7
      replace hB3 := hB3.ext hx7
      replace hB5 := hB5.ext hx7
      replace hE := hE.ext hx7
      replace hEs := hEs.ext hx7
      refine R.append (m := yss[i].length) Try.underlying35 Try.underlying35 t3 (by decide) rfl hS22 (hr19.ext hE) ints_one rfl rfl (by simp; omega) (by simp; omega) (fun _ b hb => ⟨G.S1_lt (fun _ _ h => h.1) (Nat.le_trans hS0 hEs.size) hb, fun e => by simp [vblk] at e; subst e; exact G.S1_new (fun _ _ h => h.1) hn022 hk22 hb⟩) ?_  -- 24 := call {'callee': ('builtin', ('append',)), 'args': [('tmp', 22), ('tmp', 23)], 'argTypes': [35, 35]}
      intro v24 w24 hU24 hS24 hd24
      have hy24 := hEs.trans hU24 (fun b hb h => by simp [vblk] at h; subst h; rw [hh5] at hb; omega)
      have hw24 : Fresh w v24 := fun b e => by
        rcases hd24 with ⟨h1, _⟩ | ⟨b', h1, h2, _⟩
        · rw [h1] at e; simp [vblk] at e; subst e; exact Nat.le_trans hz hn022
        · rw [h1] at e; simp at e; subst e; exact Nat.le_trans hz (Nat.le_trans (Nat.le_trans hS0 hEs.size) h2)
      clear hS22 hd24
      replace hE := hE.trans hU24 (fun b hb h => by simp [vblk] at h; omega)
      replace hEs := hy24
      replace hM := hMs.ext hy24
      replace hA := hAs.ext hy24
      replace hB2 := hB2s.ext hy24
      replace hB3 := hB3s.ext hy24
      replace hB5 := hB5s.ext hy24
      have hR24 : SInts _ v24 yss[i] := SInts.of0 hS24 rfl
      clear hS24
      refine R.nil ⟨hU24.size, ?_⟩
      intro K7 hK7 hN7
      replace hk22 := hK7 _ hk22
      refine G.buildSlice [v24] Try.underlying22 t35 rfl rfl (by simp [cells_one hR24.one]) (by simp) ?_  -- 25 := buildSlice 22 1 [('tup', 0, ('tmp', 24))]
      intro w8 b25 K8 hx8 hb25 hn25 hK8 hk25 hS25
      replace hk22 := hK8 _ hk22
      have hn025 := hb25
      replace hb25 := Nat.le_trans hW0 hb25
      replace hA := hA.ext hx8
      replace hM := hM.ext hx8
      replace hR24 := hR24.ext hx8
      replace hB2 := hB2.ext hx8
      replace hB3 := hB3.ext hx8
      replace hB5 := hB5.ext hx8
      replace hE := hE.ext hx8
      replace hEs := hEs.ext hx8
      refine G.l rfl rfl (.inr rfl) (Nat.le_of_ble_eq_true rfl) ?_
      intro w9 hx9
      replace hA := hA.ext hx9
      replace hM := hM.ext hx9
      replace hR24 := hR24.ext hx9
      replace hS25 := hS25.ext hx9
      replace hB2 := hB2.ext hx9
      replace hB3 := hB3.ext hx9
      replace hB5 := hB5.ext hx9
      replace hE := hE.ext hx9
      replace hEs := hEs.ext hx9
      refine R.append Try.underlying22 Try.underlying22 t35 (by decide) rfl hM.outer hS25.row (by simp [cellsOf, cells_one hR24.one, hR24.one]) rfl rfl (by simp; omega) (by simp; omega) (fun _ b hb => ⟨G.S1_lt (fun _ _ h => h.1) (Nat.le_trans hS0 hEs.size) hb, fun e => G.S1_old (by have h1 := hMs.outer.blk_lt e; rw [hh5] at h1; exact h1) (fun h => (h.2 rfl).2 e) hb⟩) ?_  -- 26 := call {'callee': ('builtin', ('append',)), 'args': [('tmp', 21), ('tmp', 25)], 'argTypes': [22, 22]}
      intro v26 w26 hU26 hS26 hd26
      have hf26 : Fresh w v26 := fun b e => by
        rcases hd26 with ⟨h1, _⟩ | ⟨b', h1, h2, _⟩
        · exact hM.f b (h1 ▸ e)
        · rw [h1] at e; simp at e; subst e; exact Nat.le_trans hz (Nat.le_trans (Nat.le_trans hS0 hEs.size) h2)
      replace hA := hA.up hU26 (fun x h1 h2 => by have := hvl x h1; have := hM.f x h2; omega) (fun h0 h2 => by have := hbl h0; have := hM.f ba h2; omega)
      replace hB2 := hB2.upS hU26 hM.outer (by decide)
      replace hB3 := hB3.upS hU26 hM.outer (by decide)
      replace hB5 := hB5.upS hU26 hM.outer (by decide)
      replace hE := hE.app hU26 hf
      replace hS26 : Sl w26 35 1 v26 ((yss.take i).length + 1) (us1 ++ [v24]) := by simpa [cellsOf, cells_one hR24.one] using hS26
      replace hM := MOF.snoc hM hR24 hw24 hf26 hU26 hS26
      clear hS26 hR24 hS25 hEs
      refine R.nil ⟨hU26.size, ?_⟩
      intro K9 hK9 hN9
      replace hk22 := hK9 _ hk22
      replace hk25 := hK9 _ hk25
      refine G.q rfl (Nat.le_of_ble_eq_true rfl) ?_
      refine R.fld fa24_0 rfl ?_  -- 27 := fieldAddr 24 ('tmp', 5) 0
      refine R.nil ?_
      refine G.l rfl rfl (.inr rfl) (Nat.le_of_ble_eq_true rfl) ?_
      intro w10 hx10
      replace hA := hA.ext hx10
      replace hM := hM.ext hx10
      replace hB2 := hB2.ext hx10
      replace hB3 := hB3.ext hx10
      replace hB5 := hB5.ext hx10
      replace hE := hE.ext hx10
      refine R.store t22 hB5 rfl rfl hM.outer.one (by simp) (fun _ h => G.S1_old (by have h1 := hB5s.lt; rw [hh5] at h1; exact h1) (fun h => (h.2 rfl).1 rfl) h) ?_  -- None := store 22 ('tmp', 27) ('tmp', 26)
      intro w50 hU50 hs50 hN50
      replace hM := hM.upT hU50 hB5 (by decide)
      replace hA := hA.upT hU50 hB5 (by decide)
      replace hB2 := hB2.up hU50 (fun h => ne2_5 h)
      replace hB3 := hB3.up hU50 (fun h => ne3_5 h)
      replace hE := hE.own hU50 hb5
      replace hB5 : Blk _ b5 24 #[v26, .int .i64 hb] := hN50
      refine R.nil ⟨hU50.size, ?_⟩
      intro K10 hK10 hN10
      replace hk22 := hK10 _ hk22
      replace hk25 := hK10 _ hk25
      refine G.nil ?_
      refine E.regionP rfl ?_  -- region 6
      refine R.addN (n := 1) rfl rfl (by omega) ?_  -- 28 := binOp ('add',) 3 ('tmp', 16) ('const', ('int', ('i64',), 1)) 3
      refine R.move ?_  -- 16 := move ('tmp', 28)
      refine R.nil ?_
      have hT : yss[i]? = some yss[i] := List.getElem?_eq_getElem _  -- round end 0 path T
      refine ⟨yss.length - (i + 1), by omega, i + 1, v26, _, rfl, by omega, hE, hA, by rw [take_snoc hT]; exact hM, hB2, hB3, hB5, rfl, rfl, rfl, rfl, rfl, rfl, trivial⟩
    · replace hc17 := dF hc17
      obtain rfl : i = yss.length := by omega
      rw [List.take_length] at hM
      refine E.exit ?_  -- exit 0
      refine E.seq ?_
      refine E.seq ?_
      refine E.regionP rfl ?_  -- region 7
      refine R.fld fa24_0 rfl ?_  -- 29 := fieldAddr 24 ('tmp', 2) 0
      refine R.loadB t22 hB2 rfl rfl rfl trivial ?_  -- 30 := load 22 ('tmp', 29)
      refine R.len Try.underlying22 hA.outer.row rfl ?_  -- 31 := call {'callee': ('builtin', ('len',)), 'args': [('tmp', 30)], 'argTypes': [22]}
      refine R.move ?_  -- 32 := move ('const', ('int', ('i64',), 0))
      refine R.nil ?_
      refine E.block ?_  -- block 2
      refine E.loop (fun n e wr => ∃ (i : Nat) (us2 : List Value), n = xss.length - i ∧ i ≤ xss.length ∧ Upd (fun x => (0 < xss.length ∧ x = ba) ∨ vblk va = some x) w wr ∧ PA wr va xss.length us2 ba i ∧ MOF w wr ov us1 yss ∧ Blk wr b2 24 #[va, .int .i64 ha] ∧ Blk wr b3 24 #[vb, .int .i64 hb] ∧ Blk wr b5 24 #[ov, .int .i64 hb] ∧ Has e [(2, .pointer (some ⟨b2, 0, none⟩)), (3, .pointer (some ⟨b3, 0, none⟩)), (5, .pointer (some ⟨b5, 0, none⟩)), (31, .int .i64 xss.length), (32, .int .i64 i)]) (xss.length) ?_ ?_
      · exact ⟨0, _, rfl, Nat.zero_le _, hE.upd, hA, hM, hB2, hB3, hB5, rfl, rfl, rfl, rfl, rfl, trivial⟩
      · rintro n e wr ⟨i, us2, rfl, hi, hE, hA, hM, hB2, hB3, hB5, hH⟩
        obtain ⟨e, rfl⟩ := hH.ex
        clear hH
        refine E.seq ?_
        refine E.regionP rfl ?_  -- region 8
        refine R.lss rfl rfl rfl ?_  -- 33 := binOp ('lss',) 3 ('tmp', 32) ('tmp', 31) 3
        refine R.nil ?_
        refine E.seq ?_
        refine E.cond rfl (fun hc33 => ?_) (fun hc33 => ?_)  -- cond t33
        · replace hc33 := dT hc33
          refine E.skip ?_
          refine E.seq ?_
          refine E.block ?_  -- block 3
          refine E.seq ?_
          refine E.regionP rfl ?_  -- region 9
          refine R.move ?_  -- 34 := move ('tmp', 32)
          refine R.assign ?_  -- 8 := assign ('tmp', 34)
          refine R.nil ?_
          refine E.seq ?_
          refine E.seq ?_
          refine E.regionP rfl ?_  -- region 10
          refine R.fld fa24_0 rfl ?_  -- 35 := fieldAddr 24 ('tmp', 2) 0
          refine R.loadB t22 hB2 rfl rfl rfl trivial ?_  -- 36 := load 22 ('tmp', 35)
          refine R.move ?_  -- 37 := move ('tmp', 8)
          refine R.ix Try.underlying22 t35 (by decide) hA.outer.row rfl rfl (by omega) ?_  -- 38 := indexAddr 22 ('tmp', 36) ('tmp', 37)
          obtain ⟨off39, len39, cap39, cur39, hu39, hc39x, hf39, hl39, hm39⟩ := hA.elems i (Nat.le_refl _) (by omega)  -- 39 := load 35 ('tmp', 38)
          refine R.ld t35 hA.outer.row rfl hu39 rfl (fun _ _ => trivial) ?_
          refine R.lenV Try.underlying35 rfl ?_  -- 40 := call {'callee': ('builtin', ('len',)), 'args': [('tmp', 39)], 'argTypes': [35]}
          refine R.move ?_  -- 41 := move ('const', ('int', ('i64',), 0))
          refine R.nil ?_
          refine E.block ?_  -- block 4
          refine E.loop (fun n e wr => ∃ (k : Nat), n = len39 - k ∧ k ≤ len39 ∧ Upd (fun x => (0 < xss.length ∧ x = ba) ∨ vblk va = some x) w wr ∧ PA wr va xss.length us2 ba i ∧ MOF w wr ov us1 yss ∧ Blk wr b2 24 #[va, .int .i64 ha] ∧ Blk wr b3 24 #[vb, .int .i64 hb] ∧ Blk wr b5 24 #[ov, .int .i64 hb] ∧ Has e [(2, .pointer (some ⟨b2, 0, none⟩)), (3, .pointer (some ⟨b3, 0, none⟩)), (5, .pointer (some ⟨b5, 0, none⟩)), (8, .int .i64 i), (31, .int .i64 xss.length), (32, .int .i64 i), (40, .int .i64 len39), (41, .int .i64 k)]) (len39) ?_ ?_
          · exact ⟨0, rfl, Nat.zero_le _, hE, hA, hM, hB2, hB3, hB5, rfl, rfl, rfl, rfl, rfl, rfl, rfl, rfl, trivial⟩
          · rintro n e wr ⟨k, rfl, hk, hE, hA, hM, hB2, hB3, hB5, hH⟩
            obtain ⟨e, rfl⟩ := hH.ex
            clear hH
            refine E.seq ?_
            refine E.regionP rfl ?_  -- region 11
            refine R.lss rfl rfl rfl ?_  -- 42 := binOp ('lss',) 3 ('tmp', 41) ('tmp', 40) 3
            refine R.nil ?_
            refine E.seq ?_
            refine E.cond rfl (fun hc42 => ?_) (fun hc42 => ?_)  -- cond t42
            · replace hc42 := dT hc42
              refine E.skip ?_
              refine E.seq ?_
              refine E.block ?_  -- block 5
              refine E.seq ?_
              refine E.regionP rfl ?_  -- region 12
              refine R.move ?_  -- 43 := move ('tmp', 41)
              refine R.assign ?_  -- 9 := assign ('tmp', 43)
              refine R.nil ?_
              refine E.regionP rfl ?_  -- region 13
              refine R.fld fa24_0 rfl ?_  -- 44 := fieldAddr 24 ('tmp', 2) 0
              refine R.loadB t22 hB2 rfl rfl rfl trivial ?_  -- 45 := load 22 ('tmp', 44)
              refine R.move ?_  -- 46 := move ('tmp', 8)
              refine R.ix Try.underlying22 t35 (by decide) hA.outer.row rfl rfl (by omega) ?_  -- 47 := indexAddr 22 ('tmp', 45) ('tmp', 46)
              refine R.ld t35 hA.outer.row rfl hu39 rfl (fun _ _ => trivial) ?_  -- 48 := load 35 ('tmp', 47)
              refine R.move ?_  -- 49 := move ('tmp', 9)
              refine R.ixV (m := k) Try.underlying35 t3 rfl rfl (by omega) ?_  -- 50 := indexAddr 35 ('tmp', 48) ('tmp', 49)
              obtain ⟨off', len', cap', cur1, hu1, hB1, hf1, hl1, _⟩ := hA.elems i (Nat.le_refl _) (by omega)  -- None := store 3 ('tmp', 50) ('const', ('int', ('i64',), -1))
              rw [hu39] at hu1
              injection hu1 with hu1
              injection hu1 with hu2 hu3 hu4
              injection hu2 with hu2
              injection hu2 with _ hu2 _
              subst hu2 hu3 hu4
              refine R.stB (n := len39) (c := cap39) (off := off39) (j := k) t3 hB1 rfl rfl rfl (by omega) nofun ?_
              intro w50 hU50 hs50 hN50
              replace hM := hM.keep hU50 (fun x hx => by have h1 : x = ba := hx; subst h1; exact hbl (by omega))
              replace hB2 := hB2.upT hU50 hB1 (by decide)
              replace hB3 := hB3.upT hU50 hB1 (by decide)
              replace hB5 := hB5.upT hU50 hB1 (by decide)
              replace hA := hA.upA hU50 hB1 hN50 (by simp)
              replace hE := hE.trans hU50 (fun _ _ h => .inl ⟨by omega, h⟩)
              refine R.nil ?_
              refine E.regionP rfl ?_  -- region 14
              refine R.addN (n := 1) rfl rfl (by omega) ?_  -- 51 := binOp ('add',) 3 ('tmp', 41) ('const', ('int', ('i64',), 1)) 3
              refine R.move ?_  -- 41 := move ('tmp', 51)
              refine R.nil ?_
              exact ⟨len39 - (k + 1), by omega, k + 1, rfl, by omega, hE, hA, hM, hB2, hB3, hB5, rfl, rfl, rfl, rfl, rfl, rfl, rfl, rfl, trivial⟩  -- round end 1 path FTT
            · replace hc42 := dF hc42
              clear hc39x hf39
              obtain ⟨off, len, cap, cur15, hu15, hc15, hf15, hl15, hm15⟩ := hA.elems i (Nat.le_refl _) (by omega)
              refine E.exit ?_  -- exit 4
              refine E.regionW (fun c x => x < wr.heap.size ∧ (c = false → x ≠ ba ∧ vblk va ≠ some x)) [59] mixed rfl (by kernel_rfl) ?_  -- region 15
              intro w11 hx11 hh11
              replace hA := hA.ext hx11
              replace hM := hM.ext hx11
              replace hB2 := hB2.ext hx11
              replace hB3 := hB3.ext hx11
              replace hB5 := hB5.ext hx11
              replace hE := hE.ext hx11
              have hEs : Ext w11 w11 := Upd.refl _
              have hS0 := hx11.size
              have hSB : ∀ b, b < w11.heap.size → b < wr.heap.size ∧ (true = false → (fun x => x ≠ ba ∧ vblk va ≠ some x) b) := fun b hb => ⟨by rw [hh11] at hb; exact hb, nofun⟩
              have hSA : ∀ b, b < w11.heap.size → (fun x => x ≠ ba ∧ vblk va ≠ some x) b → b < wr.heap.size ∧ (false = false → (fun x => x ≠ ba ∧ vblk va ≠ some x) b) := fun b hb h => ⟨by rw [hh11] at hb; exact hb, fun _ => h⟩
              have hAs := hA
              have hMs := hM
              have hB2s := hB2
              have hB3s := hB3
              have hB5s := hB5
              refine R.fld fa24_0 rfl ?_  -- 52 := fieldAddr 24 ('tmp', 2) 0
              refine R.loadB t22 (hB2s.ext hEs) rfl rfl rfl (hSA b2 hB2s.lt (⟨hB2.ne (hc15.ext (by assumption)) (by decide), hB2.ne_vblk hA.outer (by decide)⟩)) ?_  -- 53 := load 22 ('tmp', 52)
              refine R.move ?_  -- 54 := move ('tmp', 8)
              refine R.fld fa24_0 rfl ?_  -- 55 := fieldAddr 24 ('tmp', 2) 0
              refine R.loadB t22 (hB2s.ext hEs) rfl rfl rfl (hSA b2 hB2s.lt (⟨hB2.ne (hc15.ext (by assumption)) (by decide), hB2.ne_vblk hA.outer (by decide)⟩)) ?_  -- 56 := load 22 ('tmp', 55)
              refine R.move ?_  -- 57 := move ('tmp', 8)
              refine R.ix Try.underlying22 t35 (by decide) hAs.outer.row rfl rfl (by omega) ?_  -- 58 := indexAddr 22 ('tmp', 56) ('tmp', 57)
              refine R.ldE t35 hAs.outer.row hEs rfl hu15 rfl hSB ?_  -- 59 := load 35 ('tmp', 58)
              refine R.buildSlice [.int .i64 (-2), .int .i64 (-3)] Try.underlying35 t3 rfl rfl (by simp [Value.cells]) (by simp) (fun _ _ _ hb => Nat.lt_of_lt_of_le hb.1 (Nat.le_trans hS0 hEs.size)) ?_  -- 60 := buildSlice 35 2 [('tup', 0, ('const', ('int', ('i64',), -2))), ('tup', 1, ('const', ('int', ('i64',), -3)))]
              intro b60 w12 hb60 hx12 hB60 hS60
              replace hb60 := Nat.le_trans hE.size hb60
              replace hA := hA.ext hx12
              replace hM := hM.ext hx12
              replace hB2 := hB2.ext hx12
              replace hB3 := hB3.ext hx12
              replace hB5 := hB5.ext hx12
              replace hE := hE.ext hx12
              replace hEs := hEs.ext hx12
              refine R.appendB (m := 2) Try.underlying35 Try.underlying35 t3 rfl ((hc15.ext (by assumption)).ext hEs) hS60.row (by simp [cellsOf, Value.cells, Value.oneCell']) rfl rfl hl15 hf15 (by omega) (by omega) (fun _ x hx => ⟨Nat.lt_of_lt_of_le hx.1 (Nat.le_trans hS0 hEs.size), (hx.2 rfl).1⟩) ?_  -- 61 := call {'callee': ('builtin', ('append',)), 'args': [('tmp', 59), ('tmp', 60)], 'argTypes': [35, 35]}
              intro v61 w61 cur61 hU61 hA61 hs61 ho61
              clear hS60
              replace hM := hM.keep hU61 (fun x hx => by have h1 : x = ba := hx; subst h1; exact hbl (by omega))
              replace hB2 := hB2.upT hU61 ((hc15.ext (by assumption)).ext hEs) (by decide)
              replace hB3 := hB3.upT hU61 ((hc15.ext (by assumption)).ext hEs) (by decide)
              replace hB5 := hB5.upT hU61 ((hc15.ext (by assumption)).ext hEs) (by decide)
              replace hA := hA.upA hU61 ((hc15.ext (by assumption)).ext hEs) hA61 hs61
              replace hE := hE.trans hU61 (fun _ _ h => .inl ⟨by omega, h⟩)
              refine R.ix Try.underlying22 t35 (by decide) hA.outer.row rfl rfl (by omega) ?_  -- 62 := indexAddr 22 ('tmp', 53) ('tmp', 54)
              refine R.stE (u := v61) t35 hA.outer rfl rfl ho61 (by omega) (fun _ x hx h => (h.2 rfl).2 hx) ?_  -- None := store 35 ('tmp', 62) ('tmp', 61)
              intro w83 hU83 hs83 hO83
              replace hM := hM.keep hU83 (fun x hx => hvl x hx)
              replace hB2 := hB2.upS hU83 hA.outer (by decide)
              replace hB3 := hB3.upS hU83 hA.outer (by decide)
              replace hB5 := hB5.upS hU83 hA.outer (by decide)
              replace hE := hE.trans hU83 (fun _ _ h => .inr h)
              replace hA := hA.step hU83 hO83
              refine R.nil ?_
              refine E.regionP rfl ?_  -- region 16
              refine R.addN (n := 1) rfl rfl (by omega) ?_  -- 63 := binOp ('add',) 3 ('tmp', 32) ('const', ('int', ('i64',), 1)) 3
              refine R.move ?_  -- 32 := move ('tmp', 63)
              refine R.nil ?_
              exact ⟨xss.length - (i + 1), by omega, i + 1, _, rfl, by omega, hE, hA, hM, hB2, hB3, hB5, rfl, rfl, rfl, rfl, rfl, trivial⟩  -- round end 2 path FTF
        · replace hc33 := dF hc33
          refine E.exit ?_  -- exit 2
          refine E.seq ?_
          refine E.regionP rfl ?_  -- region 17
          refine R.loadA t24 hB3 rfl rfl rfl trivial ?_  -- 64 := load 24 ('tmp', 3)
          refine R.loadA t24 hB5 rfl rfl rfl trivial ?_  -- 65 := load 24 ('tmp', 5)
          refine R.callE2 ent28 (same1 _ (hL0.keep (hK.up34 (hE.mono (fun x _ h => hX x h)))).mat hM.mo.mat (by omega) (fun xs h => by have := hy xs h; omega)) rfl rfl nofun ?_  -- 66 := call {'callee': ('value', ('func', 28)), 'args': [('tmp', 64), ('tmp', 65)], 'argTypes': [24, 24]}
          rintro v66 w13 hx13 rfl
          replace hA := hA.ext hx13
          replace hM := hM.ext hx13
          replace hB2 := hB2.ext hx13
          replace hB3 := hB3.ext hx13
          replace hB5 := hB5.ext hx13
          replace hE := hE.ext hx13
          refine R.assign ?_  -- 4 := assign ('tmp', 66)
          refine R.nil ?_
          refine E.ret ?_
          exact ret1 (.bool true) rfl rfl ⟨_, rfl, hE.mono (fun x _ h => hX x h), rfl⟩  -- return 0 path FF

end Go.Proofs.Ytfdmndkoiheebaa
