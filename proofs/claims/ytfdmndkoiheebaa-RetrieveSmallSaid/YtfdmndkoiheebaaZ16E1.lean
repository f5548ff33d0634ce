import Derived.Test.YtfdmndkoiheebaaZ16C10
namespace Go.Proofs.Ytfdmndkoiheebaa
open Go Go.RowKit
structure PA (w : World) (v : Value) (n : Nat) (us : List Value) (ba i : Nat) : Prop where
  outer : Sl w 35 1 v n us
  elems : ∀ j, i ≤ j → j < n → ∃ off len cap cur, us[j]? = some (.slice (some ⟨ba, off, none⟩) len cap) ∧ Blk w ba 3 cur ∧ off + cap ≤ cur.size ∧ len ≤ cap ∧ len ≤ 10
section
variable {w w' w0 : World} {v : Value} {n ba i : Nat} {us : List Value} {X : Nat → Prop}
theorem PA.up (h : PA w v n us ba i) (u : Upd X w w') (hv : ∀ x, vblk v = some x → ¬ X x) (hb : i < n → ¬ X ba) : PA w' v n us ba i :=
  ⟨h.outer.up u hv, fun j hi hj => by
    obtain ⟨off, len, cap, cur, h1, h2, h3⟩ := h.elems j hi hj
    exact ⟨off, len, cap, cur, h1, h2.up u (hb (by omega)), h3⟩⟩
theorem PA.ext (h : PA w v n us ba i) (u : Ext w w') : PA w' v n us ba i := h.up u (fun _ _ => id) (fun _ => id)
theorem PA.upT {b : Nat} {cs : Array Value} {ty : TypeId} (h : PA w v n us ba i) (u : Upd (one b) w w') (hb : Blk w b ty cs) (hne : 35 ≠ ty ∧ 3 ≠ ty) : PA w' v n us ba i :=
  ⟨h.outer.upT u hb hne.1, fun j hi hj => by
    obtain ⟨off, len, cap, cur, h1, h2, h3⟩ := h.elems j hi hj
    exact ⟨off, len, cap, cur, h1, h2.upT u hb hne.2, h3⟩⟩
end
theorem Sl.blk {w : World} {ty : TypeId} {k n b : Nat} {v : Value} {cs : List Value} (h : Sl w ty k v n cs) (e : vblk v = some b) : ∃ cur, Blk w b ty cur := by
  obtain ⟨a, cap, rfl, _, _, h | ⟨b', off, cur, rfl, hb, _⟩⟩ := h
  · obtain ⟨rfl, _⟩ := h; simp [vblk] at e
  · simp [vblk] at e; subst e; exact ⟨cur, hb⟩
def XB (w : World) (x : Nat) : Prop := ∃ ty cs, Blk w x ty cs ∧ 35 ≠ ty ∧ 3 ≠ ty
abbrev Keep (wa w : World) : Prop := Upd (XB wa) wa w
theorem Keep.upT {wa w w' : World} {b : Nat} {cs : Array Value} {ty : TypeId} (h : Keep wa w) (u : Upd (one b) w w') (hb : Blk w b ty cs) (hne : 35 ≠ ty ∧ 3 ≠ ty) : Keep wa w' := h.trans u fun x hx e => by
  have e1 : x = b := e
  subst e1
  by_cases hq : XB wa x
  · exact hq
  · exact ⟨ty, cs, (h.blk x hx hq).symm.trans hb, hne⟩
theorem Upd.upT {wa w w' : World} {b : Nat} {cs : Array Value} {ty : TypeId} (h : Keep wa w) (u : Upd (one b) w w') (hb : Blk w b ty cs) (hne : 35 ≠ ty ∧ 3 ≠ ty) : Keep wa w' := Keep.upT h u hb hne
theorem MO.eq {w : World} {v : Value} {us : List Value} {xss : List (List Int)} (h : MO w v us xss) : ∃ us, Mat w v us xss := ⟨us, h.mat⟩
structure Grow (w0 w : World) : Prop where
  le : w0.heap.size ≤ w.heap.size
theorem Grow.ext {X : Nat → Prop} {w0 w w' : World} (h : Grow w0 w) (u : Upd X w w') : Grow w0 w' := ⟨Nat.le_trans h.le u.size⟩
theorem Grow.upT {w0 w w' : World} {b : Nat} {cs : Array Value} {ty : TypeId} (h : Grow w0 w) (u : Upd (one b) w w') (_ : Blk w b ty cs) (_ : 1 = 1) : Grow w0 w' := h.ext u
structure MOF (w0 w : World) (v : Value) (us : List Value) (xss : List (List Int)) : Prop where
  mo : MO w v us xss
  f : Fresh w0 v
  fs : ∀ u ∈ us, Fresh w0 u
section
variable {w0 w w' : World} {v : Value} {us : List Value} {xss : List (List Int)} {X : Nat → Prop}
theorem MOF.outer (h : MOF w0 w v us xss) : Sl w 35 1 v xss.length us := h.mo.outer
theorem MOF.ext (h : MOF w0 w v us xss) (u : Ext w w') : MOF w0 w' v us xss := ⟨h.mo.ext u, h.f, h.fs⟩
theorem MOF.upT {b : Nat} {cs : Array Value} {ty : TypeId} (h : MOF w0 w v us xss) (u : Upd (one b) w w') (hb : Blk w b ty cs) (hne : 35 ≠ ty ∧ 3 ≠ ty) : MOF w0 w' v us xss := ⟨h.mo.upT u hb hne, h.f, h.fs⟩
theorem MOF.nil (w0 w : World) : MOF w0 w (.slice none 0 0) [] [] := ⟨MO.nil _, Fresh.nil _, by simp⟩
theorem MOF.snoc {v' u : Value} {xs : List Int} (h : MOF w0 w v us xss) (hx : SInts w u xs) (hf : Fresh w0 u) (hfv : Fresh w0 v') (hU : Upd (fun b => vblk v = some b) w w') (hO : Sl w' 35 1 v' (xss.length + 1) (us ++ [u])) : MOF w0 w' v' (us ++ [u]) (xss ++ [xs]) :=
  ⟨MO.snoc h.mo hx hU hO, hfv, fun y hy => by
    rcases List.mem_append.1 hy with hy | hy
    · exact h.fs y hy
    · simp at hy; subst hy; exact hf⟩
end
end Go.Proofs.Ytfdmndkoiheebaa

namespace Go.Proofs.Ytfdmndkoiheebaa
open Go Go.RowKit
def pickL (a n : Int) : Int := if n < 1 then 0 else a % n
theorem pick (w : World) {a n : Int} (hn : n ≤ 9223372036854775807) :
    Calls Try.prog 21 #[.int .i64 a, .int .i64 n] w (Ret fun r w' => Ext w w' ∧ r = .int .i64 (pickL a n)) := by
  refine calls_E (args := [.int .i64 a, .int .i64 n]) 16 Try.func21 rfl rfl (by simp) ?_
  have hE : Ext w w := Upd.refl w
  refine E.seq ?_
  refine E.regionP rfl ?_
  refine R.assign ?_
  refine R.nil ?_
  refine E.seq ?_
  refine E.seq ?_
  refine E.regionP rfl ?_
  refine R.move ?_
  refine R.lss rfl rfl rfl ?_
  refine R.nil ?_
  refine E.cond rfl (fun hc6 => ?_) (fun hc6 => ?_)
  · replace hc6 := dT hc6
    refine E.seq ?_
    refine E.regionP rfl ?_
    refine R.assign ?_
    refine R.nil ?_
    refine E.ret ?_
    exact ret1 (.int .i64 0) rfl rfl ⟨_, rfl, hE, by simp [pickL, hc6]⟩
  · replace hc6 := dF hc6
    have htm := Int.tmod_lt_of_pos a (show 0 < n by omega)
    have htn := Int.lt_tmod_of_pos a (show 0 < n by omega)
    have hem : a % n = if a.tmod n < 0 then a.tmod n + n else a.tmod n := by
      rw [Int.tmod_eq_emod]
      have h1 := Int.emod_nonneg a (show n ≠ 0 by omega)
      have h2 := Int.emod_lt_of_pos a (show 0 < n by omega)
      split
      · simp; omega
      · have : (n.natAbs : Int) = n := by omega
        rw [this]
        split <;> omega
    refine E.skip ?_
    refine E.seq ?_
    refine E.regionP rfl ?_
    refine R.move ?_
    refine R.move ?_
    refine R.remT rfl rfl (by omega) ?_
    refine R.assign ?_
    refine R.nil ?_
    refine E.seq ?_
    refine E.seq ?_
    refine E.regionP rfl ?_
    refine R.move ?_
    refine R.lss rfl rfl rfl ?_
    refine R.nil ?_
    refine E.cond rfl (fun hc11 => ?_) (fun hc11 => ?_)
    · replace hc11 := dT hc11
      refine E.regionP rfl ?_
      refine R.move ?_
      refine R.move ?_
      refine R.add rfl rfl (by omega) (by omega) ?_
      refine R.assign ?_
      refine R.nil ?_
      refine E.seq ?_
      refine E.regionP rfl ?_
      refine R.move ?_
      refine R.assign ?_
      refine R.nil ?_
      refine E.ret ?_
      exact ret1 (.int .i64 (a.tmod n + n)) rfl rfl ⟨_, rfl, hE, by simp [pickL, hc6, hem, hc11]⟩
    · replace hc11 := dF hc11
      refine E.skip ?_
      refine E.seq ?_
      refine E.regionP rfl ?_
      refine R.move ?_
      refine R.assign ?_
      refine R.nil ?_
      refine E.ret ?_
      exact ret1 (.int .i64 (a.tmod n)) rfl rfl ⟨_, rfl, hE, by simp [pickL, hc6, hem, hc11]⟩
def Fit (xss : List (List Int)) : Prop := xss.length ≤ 32 ∧ ∀ xs ∈ xss, xs.length ≤ 10
theorem Fit.nil : Fit [] := ⟨by simp, by simp⟩
theorem Fit.set {xss : List (List Int)} {i : Nat} {x : List Int} (h : Fit xss) (hx : x.length ≤ 10) : Fit (xss.set i x) := ⟨by rw [List.length_set]; exact h.1, fun xs hxs => by
  rcases List.mem_or_eq_of_mem_set hxs with h1 | h1
  · exact h.2 xs h1
  · subst h1; exact hx⟩
theorem Fit.l6 {xss : List (List Int)} (h : Fit xss) : xss.length < 1000000 := by have := h.1; omega
theorem Fit.x6 {xss : List (List Int)} (h : Fit xss) : ∀ xs ∈ xss, xs.length < 1000000 := fun xs hx => by have := h.2 xs hx; omega
end Go.Proofs.Ytfdmndkoiheebaa

namespace Go.Proofs.Ytfdmndkoiheebaa
open Go Go.RowKit
structure MS (w0 w : World) (v : Value) (us : List Value) (xss : List (List Int)) : Prop where
  mo : MO w v us xss
  f : Fresh w0 v
  fs : ∀ u ∈ us, Fresh w0 u
  sep : ∀ (i j : Nat) (u u' : Value) (b : Nat), us[i]? = some u → us[j]? = some u' → vblk u = some b → vblk u' = some b → i = j
section
variable {w0 w w' : World} {v : Value} {us : List Value} {xss : List (List Int)} {X : Nat → Prop}
theorem MS.outer (h : MS w0 w v us xss) : Sl w 35 1 v xss.length us := h.mo.outer
theorem MS.mat (h : MS w0 w v us xss) : Mat w v us xss := h.mo.mat
theorem MS.row (h : MS w0 w v us xss) : Row w 1 v xss.length us := h.mo.outer.row
theorem MS.ext (h : MS w0 w v us xss) (u : Ext w w') : MS w0 w' v us xss := ⟨h.mo.ext u, h.f, h.fs, h.sep⟩
theorem MS.upT {b : Nat} {cs : Array Value} {ty : TypeId} (h : MS w0 w v us xss) (u : Upd (one b) w w') (hb : Blk w b ty cs) (hne : 35 ≠ ty ∧ 3 ≠ ty) : MS w0 w' v us xss := ⟨h.mo.upT u hb hne, h.f, h.fs, h.sep⟩
theorem MS.mono {w1 : World} (h : MS w0 w v us xss) (u : w1.heap.size ≤ w0.heap.size) : MS w1 w v us xss := ⟨h.mo, h.f.mono u, fun x hx => (h.fs x hx).mono u, h.sep⟩
theorem MS.len (h : MS w0 w v us xss) : us.length = xss.length := by have := h.outer.len; omega
theorem MS.get (h : MS w0 w v us xss) (i : Nat) (hi : i < xss.length) : ∃ u, us[i]? = some u ∧ SInts w u xss[i] := h.mo.elems i hi
theorem MS.rowOf (h : MS w0 w v us xss) {i : Nat} {u : Value} (hi : i < xss.length) (hu : us[i]? = some u) : SInts w u xss[i] := by
  obtain ⟨y, h1, h2⟩ := h.mo.elems i hi
  rw [hu] at h1
  obtain rfl := Option.some.inj h1
  exact h2
theorem MS.empty {n : Nat} (h : Sl w 35 1 v n (List.replicate n (.slice none 0 0))) (hf : Fresh w0 v) : MS w0 w v (List.replicate n (.slice none 0 0)) (List.replicate n []) := by
  refine ⟨⟨by simpa using h, fun i hi => ?_⟩, hf, fun u hu => ?_, fun i j u u' b h1 h2 h3 => ?_⟩
  · have : i < n := by simpa using hi
    refine ⟨.slice none 0 0, by simp [this], ?_⟩
    rw [List.getElem_replicate]
    exact SInts.nil _
  · obtain ⟨_, rfl⟩ := List.mem_replicate.1 hu
    exact Fresh.nil _
  · obtain ⟨_, rfl⟩ := List.mem_replicate.1 (List.mem_of_getElem? h1)
    simp [vblk] at h3
theorem MS.set {i : Nat} {u u' : Value} {xs : List Int} (h : MS w0 w v us xss) (hu : us[i]? = some u) (hU : Upd (fun b => vblk u = some b ∨ vblk v = some b) w w') (hO : Sl w' 35 1 v xss.length (us.set i u')) (hR : SInts w' u' xs)
    (hb : ∀ b, vblk u' = some b → vblk u = some b ∨ w.heap.size ≤ b) (hs : w0.heap.size ≤ w.heap.size) : MS w0 w' v (us.set i u') (xss.set i xs) := by
  have hl := h.len
  have hil : i < us.length := (List.getElem?_eq_some_iff.1 hu).1
  refine ⟨⟨by rw [List.length_set]; exact hO, fun j hj => ?_⟩, h.f, fun y hy => ?_, fun j k y y' b h1 h2 h3 h4 => ?_⟩
  · rw [List.length_set] at hj
    by_cases hij : i = j
    · subst hij
      exact ⟨u', by rw [List.getElem?_set_self hil], by rw [List.getElem_set_self]; exact hR⟩
    · obtain ⟨y, h1, h2⟩ := h.mo.elems j hj
      refine ⟨y, by rw [List.getElem?_set_ne hij]; exact h1, ?_⟩
      rw [List.getElem_set_ne hij]
      refine h2.up hU fun b hb hx => ?_
      rcases hx with hx | hx
      · exact hij (h.sep i j u y b hu h1 hx hb)
      · obtain ⟨c1, q1⟩ := h2.blk hb
        obtain ⟨c2, q2⟩ := h.outer.blk hx
        exact absurd (q1.inj q2).2 (by decide)
  · rcases List.mem_or_eq_of_mem_set hy with hy | rfl
    · exact h.fs y hy
    · intro b e
      rcases hb b e with e | e
      · exact h.fs u (List.mem_of_getElem? hu) b e
      · omega
  · by_cases hij : i = j
    · by_cases hik : i = k
      · omega
      · exfalso
        subst hij
        rw [List.getElem?_set_self hil] at h1
        obtain rfl := Option.some.inj h1
        rw [List.getElem?_set_ne hik] at h2
        rcases hb b h3 with e | e
        · exact hik (h.sep i k u y' b hu h2 e h4)
        · have hk : k < xss.length := by have := (List.getElem?_eq_some_iff.1 h2).1; omega
          obtain ⟨z, q1, q2⟩ := h.mo.elems k hk
          rw [h2] at q1
          obtain rfl := Option.some.inj q1
          have := q2.blk_lt h4
          omega
    · rw [List.getElem?_set_ne hij] at h1
      by_cases hik : i = k
      · exfalso
        subst hik
        rw [List.getElem?_set_self hil] at h2
        obtain rfl := Option.some.inj h2
        rcases hb b h4 with e | e
        · exact hij (h.sep i j u y b hu h1 e h3)
        · have hk : j < xss.length := by have := (List.getElem?_eq_some_iff.1 h1).1; omega
          obtain ⟨z, q1, q2⟩ := h.mo.elems j hk
          rw [h1] at q1
          obtain rfl := Option.some.inj q1
          have := q2.blk_lt h3
          omega
      · rw [List.getElem?_set_ne hik] at h2
        exact h.sep j k y y' b h1 h2 h3 h4
end
abbrev u8s (xs : List Nat) : List Value := xs.map fun x : Nat => Value.int .u8 (x : Int)
abbrev U8s (w : World) (v : Value) (xs : List Nat) : Prop := Row w 1 v xs.length (u8s xs)
theorem flatten_set_perm {xss : List (List Int)} {i : Nat} (hi : i < xss.length) (x : Int) : (xss.set i (xss[i] ++ [x])).flatten.Perm (x :: xss.flatten) := by
  induction xss generalizing i with
  | nil => simp at hi
  | cons y xss ih =>
    cases i with
    | zero =>
      simp only [List.set_cons_zero, List.getElem_cons_zero, List.flatten_cons, List.append_assoc, List.cons_append, List.nil_append]
      exact List.perm_middle
    | succ i =>
      simp only [List.set_cons_succ, List.getElem_cons_succ, List.flatten_cons]
      exact ((ih (by simpa using hi)).append_left y).trans List.perm_middle
structure MadeP (xss : List (List Int)) (n H i : Nat) : Prop where
  len : xss.length = n
  row : ∀ xs ∈ xss, xs.length ≤ H
  box : ∀ b ∈ xss.flatten, 1 ≤ b ∧ b ≤ (i : Int)
  nodup : xss.flatten.Nodup
  count : xss.flatten.length ≤ i
theorem MadeP.empty {n H : Nat} : MadeP (List.replicate n []) n H 0 := ⟨by simp, by simp, by simp, by simp, by simp⟩
theorem MadeP.mono {xss : List (List Int)} {n H i : Nat} (h : MadeP xss n H i) : MadeP xss n H (i + 1) := ⟨h.len, h.row, fun b hb => by have := h.box b hb; omega, h.nodup, by have := h.count; omega⟩
theorem MadeP.push {xss : List (List Int)} {n H i a : Nat} (h : MadeP xss n H i) (ha : a < xss.length) (hr : xss[a].length < H) : MadeP (xss.set a (xss[a] ++ [((i + 1 : Nat) : Int)])) n H (i + 1) := by
  have hp := flatten_set_perm ha ((i + 1 : Nat) : Int)
  refine ⟨by rw [List.length_set]; exact h.len, fun xs hx => ?_, fun b hb => ?_, ?_, ?_⟩
  · rcases List.mem_or_eq_of_mem_set hx with h1 | rfl
    · exact h.row xs h1
    · simp; omega
  · rcases List.mem_cons.1 (hp.mem_iff.1 hb) with rfl | h1
    · omega
    · have := h.box b h1; omega
  · rw [hp.nodup_iff, List.nodup_cons]
    exact ⟨fun hm => by have := h.box _ hm; omega, h.nodup⟩
  · rw [hp.length_eq, List.length_cons]; have := h.count; omega
theorem MadeP.right {xss : List (List Int)} {n H i : Nat} (h : MadeP xss n H i) (hn : 1 ≤ n) (hn2 : n ≤ 30) (hH : 1 ≤ H) (hH6 : H ≤ 6) (hi : i ≤ 999999) : RightP xss H := by
  refine ⟨by omega, by omega, by rw [h.len]; exact hn, by rw [h.len]; exact hn2, fun xs hx => by have := h.row xs hx; omega, fun b hb => by have := h.box b hb; omega, h.nodup⟩
end Go.Proofs.Ytfdmndkoiheebaa
