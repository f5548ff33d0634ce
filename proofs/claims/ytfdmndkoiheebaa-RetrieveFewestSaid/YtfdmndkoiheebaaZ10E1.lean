import Derived.Test.YtfdmndkoiheebaaZ10D2
namespace Go.Proofs.Ytfdmndkoiheebaa
open Go Go.RowKit
structure MS (w0 w : World) (v : Value) (us : List Value) (xss : List (List Int)) : Prop where
  mo : MO w v us xss
  f : Fresh w0 v
  fs : ∀ u ∈ us, Fresh w0 u
  sep : ∀ (i j : Nat) (u u' : Value) (b : Nat), us[i]? = some u → us[j]? = some u' → vblk u = some b → vblk u' = some b → i = j
section
variable {w0 w w' : World} {v : Value} {us : List Value} {xss : List (List Int)} {X : Nat → Prop}
theorem MS.outer (h : MS w0 w v us xss) : Sl w 35 1 v xss.length us := h.mo.outer
theorem MS.mat (h : MS w0 w v us xss) : Mat w v us xss := h.mo.mat
theorem MS.row (h : MS w0 w v us xss) : Row w 1 v xss.length us := h.mo.outer.row
theorem MS.ext (h : MS w0 w v us xss) (u : Ext w w') : MS w0 w' v us xss := ⟨h.mo.ext u, h.f, h.fs, h.sep⟩
theorem MS.upT {b : Nat} {cs : Array Value} {ty : TypeId} (h : MS w0 w v us xss) (u : Upd (one b) w w') (hb : Blk w b ty cs) (hne : 35 ≠ ty ∧ 3 ≠ ty) : MS w0 w' v us xss := ⟨h.mo.upT u hb hne, h.f, h.fs, h.sep⟩
theorem MS.mono {w1 : World} (h : MS w0 w v us xss) (u : w1.heap.size ≤ w0.heap.size) : MS w1 w v us xss := ⟨h.mo, h.f.mono u, fun x hx => (h.fs x hx).mono u, h.sep⟩
theorem MS.len (h : MS w0 w v us xss) : us.length = xss.length := by have := h.outer.len; omega
theorem MS.get (h : MS w0 w v us xss) (i : Nat) (hi : i < xss.length) : ∃ u, us[i]? = some u ∧ SInts w u xss[i] := h.mo.elems i hi
theorem MS.rowOf (h : MS w0 w v us xss) {i : Nat} {u : Value} (hi : i < xss.length) (hu : us[i]? = some u) : SInts w u xss[i] := by
  obtain ⟨y, h1, h2⟩ := h.mo.elems i hi
  rw [hu] at h1
  obtain rfl := Option.some.inj h1
  exact h2
theorem MS.empty {n : Nat} (h : Sl w 35 1 v n (List.replicate n (.slice none 0 0))) (hf : Fresh w0 v) : MS w0 w v (List.replicate n (.slice none 0 0)) (List.replicate n []) := by
  refine ⟨⟨by simpa using h, fun i hi => ?_⟩, hf, fun u hu => ?_, fun i j u u' b h1 h2 h3 => ?_⟩
  · have : i < n := by simpa using hi
    refine ⟨.slice none 0 0, by simp [this], ?_⟩
    rw [List.getElem_replicate]
    exact SInts.nil _
  · obtain ⟨_, rfl⟩ := List.mem_replicate.1 hu
    exact Fresh.nil _
  · obtain ⟨_, rfl⟩ := List.mem_replicate.1 (List.mem_of_getElem? h1)
    simp [vblk] at h3
theorem MS.set {i : Nat} {u u' : Value} {xs : List Int} (h : MS w0 w v us xss) (hu : us[i]? = some u) (hU : Upd (fun b => vblk u = some b ∨ vblk v = some b) w w') (hO : Sl w' 35 1 v xss.length (us.set i u')) (hR : SInts w' u' xs)
    (hb : ∀ b, vblk u' = some b → vblk u = some b ∨ w.heap.size ≤ b) (hs : w0.heap.size ≤ w.heap.size) : MS w0 w' v (us.set i u') (xss.set i xs) := by
  have hl := h.len
  have hil : i < us.length := (List.getElem?_eq_some_iff.1 hu).1
  refine ⟨⟨by rw [List.length_set]; exact hO, fun j hj => ?_⟩, h.f, fun y hy => ?_, fun j k y y' b h1 h2 h3 h4 => ?_⟩
  · rw [List.length_set] at hj
    by_cases hij : i = j
    · subst hij
      exact ⟨u', by rw [List.getElem?_set_self hil], by rw [List.getElem_set_self]; exact hR⟩
    · obtain ⟨y, h1, h2⟩ := h.mo.elems j hj
      refine ⟨y, by rw [List.getElem?_set_ne hij]; exact h1, ?_⟩
      rw [List.getElem_set_ne hij]
      refine h2.up hU fun b hb hx => ?_
      rcases hx with hx | hx
      · exact hij (h.sep i j u y b hu h1 hx hb)
      · obtain ⟨c1, q1⟩ := h2.blk hb
        obtain ⟨c2, q2⟩ := h.outer.blk hx
        exact absurd (q1.inj q2).2 (by decide)
  · rcases List.mem_or_eq_of_mem_set hy with hy | rfl
    · exact h.fs y hy
    · intro b e
      rcases hb b e with e | e
      · exact h.fs u (List.mem_of_getElem? hu) b e
      · omega
  · by_cases hij : i = j
    · by_cases hik : i = k
      · omega
      · exfalso
        subst hij
        rw [List.getElem?_set_self hil] at h1
        obtain rfl := Option.some.inj h1
        rw [List.getElem?_set_ne hik] at h2
        rcases hb b h3 with e | e
        · exact hik (h.sep i k u y' b hu h2 e h4)
        · have hk : k < xss.length := by have := (List.getElem?_eq_some_iff.1 h2).1; omega
          obtain ⟨z, q1, q2⟩ := h.mo.elems k hk
          rw [h2] at q1
          obtain rfl := Option.some.inj q1
          have := q2.blk_lt h4
          omega
    · rw [List.getElem?_set_ne hij] at h1
      by_cases hik : i = k
      · exfalso
        subst hik
        rw [List.getElem?_set_self hil] at h2
        obtain rfl := Option.some.inj h2
        rcases hb b h4 with e | e
        · exact hij (h.sep i j u y b hu h1 e h3)
        · have hk : j < xss.length := by have := (List.getElem?_eq_some_iff.1 h1).1; omega
          obtain ⟨z, q1, q2⟩ := h.mo.elems j hk
          rw [h1] at q1
          obtain rfl := Option.some.inj q1
          have := q2.blk_lt h3
          omega
      · rw [List.getElem?_set_ne hik] at h2
        exact h.sep j k y y' b h1 h2 h3 h4
end
theorem R.conv64 {P : Program} {ops : Array Oper} {S : Bool → Nat → Prop} {dr : Bool} {B : List Nat} {F : Env → World → Prop} {rest : List Oper} {e : Env} {w : World} {d : Tmp} {ty : TypeId} {pos : String} {aft : Array Edge} {x : Operand} {src dst : TypeId} {k : IntKind} {n : Int} {ds : TypeDesc} (hs : P.underlying src = some ds) (hd : P.underlying dst = some (.int .i64)) (hx : ev e x = .int k n) (h1 : -9223372036854775808 ≤ n) (h2 : n ≤ 9223372036854775807)
    (h : wpR P ops S dr (kind B) F rest (upd e d (.int .i64 n)) w) : wpR P ops S dr (kind B) F (⟨some d, .convert src dst x, ty, pos, aft, none⟩ :: rest) e w :=
  R.conv hs hd hx (by rw [R.wrap64 h1 h2]; exact h)
abbrev u8s (xs : List Nat) : List Value := xs.map fun x : Nat => Value.int .u8 (x : Int)
abbrev U8s (w : World) (v : Value) (xs : List Nat) : Prop := Row w 1 v xs.length (u8s xs)
theorem u8_at {xs : List Nat} {k : Nat} (h : k < xs.length) : (u8s xs)[k]? = some (.int .u8 (xs[k] : Nat)) := by simp [h]
theorem remU {P : Program} {ops : Array Oper} {S : Bool → Nat → Prop} {dr : Bool} {B : List Nat} {F : Env → World → Prop} {rest : List Oper} {e : Env} {w : World} {d : Tmp} {ty : TypeId} {pos : String} {aft : Array Edge} {t t' : TypeId} {x y : Operand} {k : IntKind} {m n : Nat} (hx : ev e x = .int k (m : Nat)) (hy : ev e y = .int k (n : Nat)) (h0 : 0 < n)
    (h : wpR P ops S dr (kind B) F rest (upd e d (.int k ((m % n : Nat) : Int))) w) : wpR P ops S dr (kind B) F (⟨some d, .binOp .rem t x y t', ty, pos, aft, none⟩ :: rest) e w :=
  R.rem hx hy (by omega) (by omega) (by rw [show ((m : Int) % (n : Int)) = ((m % n : Nat) : Int) by omega]; exact h)
theorem flatten_set_perm {xss : List (List Int)} {i : Nat} (hi : i < xss.length) (x : Int) : (xss.set i (xss[i] ++ [x])).flatten.Perm (x :: xss.flatten) := by
  induction xss generalizing i with
  | nil => simp at hi
  | cons y xss ih =>
    cases i with
    | zero =>
      simp only [List.set_cons_zero, List.getElem_cons_zero, List.flatten_cons, List.append_assoc, List.cons_append, List.nil_append]
      exact List.perm_middle
    | succ i =>
      simp only [List.set_cons_succ, List.getElem_cons_succ, List.flatten_cons]
      exact ((ih (by simpa using hi)).append_left y).trans List.perm_middle
structure MadeP (xss : List (List Int)) (n H i : Nat) : Prop where
  len : xss.length = n
  row : ∀ xs ∈ xss, xs.length ≤ H
  box : ∀ b ∈ xss.flatten, 1 ≤ b ∧ b ≤ (i : Int)
  nodup : xss.flatten.Nodup
  count : xss.flatten.length ≤ i
theorem MadeP.empty {n H : Nat} : MadeP (List.replicate n []) n H 0 := ⟨by simp, by simp, by simp, by simp, by simp⟩
theorem MadeP.mono {xss : List (List Int)} {n H i : Nat} (h : MadeP xss n H i) : MadeP xss n H (i + 1) := ⟨h.len, h.row, fun b hb => by have := h.box b hb; omega, h.nodup, by have := h.count; omega⟩
theorem MadeP.push {xss : List (List Int)} {n H i a : Nat} (h : MadeP xss n H i) (ha : a < xss.length) (hr : xss[a].length < H) : MadeP (xss.set a (xss[a] ++ [((i + 1 : Nat) : Int)])) n H (i + 1) := by
  have hp := flatten_set_perm ha ((i + 1 : Nat) : Int)
  refine ⟨by rw [List.length_set]; exact h.len, fun xs hx => ?_, fun b hb => ?_, ?_, ?_⟩
  · rcases List.mem_or_eq_of_mem_set hx with h1 | rfl
    · exact h.row xs h1
    · simp; omega
  · rcases List.mem_cons.1 (hp.mem_iff.1 hb) with rfl | h1
    · omega
    · have := h.box b h1; omega
  · rw [hp.nodup_iff, List.nodup_cons]
    exact ⟨fun hm => by have := h.box _ hm; omega, h.nodup⟩
  · rw [hp.length_eq, List.length_cons]; have := h.count; omega
theorem MadeP.right {xss : List (List Int)} {n H i : Nat} (h : MadeP xss n H i) (hn : 1 ≤ n) (hn2 : n ≤ 30) (hH : 1 ≤ H) (hH6 : H ≤ 6) (hi : i ≤ 999999) : RightP xss H := by
  refine ⟨by omega, by omega, by rw [h.len]; exact hn, by rw [h.len]; exact hn2, fun xs hx => by have := h.row xs hx; omega, fun b hb => by have := h.box b hb; omega, h.nodup⟩
set_option maxHeartbeats 1600000 in
theorem made (w : World) {vl : Value} {st ht : Nat} {ls : List Nat} (hl : U8s w vl ls) (hll : ls.length ≤ 9223372036854775807) (hls : ∀ x ∈ ls, x < 256) :
    Calls Try.prog 22 #[.int .u8 st, .int .u8 ht, vl] w (Ret fun r w' => Ext w w' ∧ ∃ v us xss, r = .agg #[v, .int .i64 ((1 + ht % 6 : Nat) : Int)] ∧ MS w w' v us xss ∧ MadeP xss (1 + st % 6) (1 + ht % 6) (min ls.length 20)) := by
  have hn1 : 1 + st % 6 ≤ 6 := by omega
  have hH1 : 1 + ht % 6 ≤ 6 := by omega
  generalize hHd : 1 + ht % 6 = H at *
  generalize hnd : 1 + st % 6 = n0 at *
  refine calls_E (args := [.int .u8 st, .int .u8 ht, vl]) 72 Try.func22 rfl rfl (by simp) ?_
  have hE : Ext w w := Upd.refl w
  refine E.seq ?_
  refine E.regionP rfl ?_
  refine R.alloc t24 nofun ?_
  intro b6 w1 hb6 hx1 hB6
  replace hb6 := Nat.le_trans hE.size hb6
  replace hE := hE.ext hx1
  replace hB6 : Blk _ b6 24 #[.slice none 0 0, .int .i64 0] := hB6
  refine R.nil ?_
  refine E.seq ?_
  refine E.regionP rfl ?_
  refine R.move ?_
  refine remU (n := 6) rfl rfl (by omega) ?_
  refine R.conv64 Try.underlying5 Try.underlying3 rfl (by omega) (by omega) ?_
  refine R.addN (m := 1) (n := st % 6) rfl rfl (by omega) ?_
  rw [hnd]
  refine R.make Try.underlying22 t35 rfl rfl rfl (Nat.le_refl _) (by omega) (by omega) nofun ?_
  intro b15 w15 hb15 hx15 hB15 hS15
  have hz15 := hE.size
  replace hB6 := hB6.ext hx15
  replace hE := hE.ext hx15
  have hM := MS.empty (w0 := w) hS15 (fun b e => by simp [vblk] at e; subst e; have := hE.size; have := hx15.size; omega)
  refine R.move ?_
  refine remU (n := 6) rfl rfl (by omega) ?_
  refine R.conv64 Try.underlying5 Try.underlying3 rfl (by omega) (by omega) ?_
  refine R.addN (m := 1) (n := ht % 6) rfl rfl (by omega) ?_
  rw [hHd]
  refine R.build (build24 rfl rfl) rfl ?_
  refine R.alloc t24 nofun ?_
  intro b7 w2 hb7 hx2 hB7
  have ne6_7 : b6 ≠ b7 := by have := hB6.lt; omega
  replace hb7 := Nat.le_trans hE.size hb7
  replace hM := hM.ext hx2
  replace hB6 := hB6.ext hx2
  replace hE := hE.ext hx2
  replace hB7 : Blk _ b7 24 #[.slice none 0 0, .int .i64 0] := hB7
  refine R.storeA t24 hB7 rfl rfl rfl rfl (ones2 hM.outer.one rfl) nofun ?_
  intro w3 hU3 hs3 hN3
  replace hM := hM.upT hU3 hB7 (by decide)
  replace hB6 := hB6.up hU3 (fun h => ne6_7 h)
  replace hE := hE.own hU3 hb7
  replace hB7 : Blk _ b7 24 #[.slice (some ⟨b15, 0, none⟩) n0 n0, .int .i64 H] := hN3
  clear hN3
  refine R.nil ?_
  refine E.seq ?_
  refine E.seq ?_
  refine E.regionP rfl ?_
  refine R.assign ?_
  refine R.nil ?_
  refine E.block ?_
  refine E.loop (fun n e wr => ∃ (i : Nat) (ov : Value) (us : List Value) (xss : List (List Int)), n = 20 - i ∧ i ≤ 20 ∧ i ≤ ls.length ∧ Ext w wr ∧ MS w wr ov us xss ∧ MadeP xss n0 H i ∧ Blk wr b6 24 #[.slice none 0 0, .int .i64 0] ∧ Blk wr b7 24 #[ov, .int .i64 H] ∧ Has e [(2, vl), (6, .pointer (some ⟨b6, 0, none⟩)), (7, .pointer (some ⟨b7, 0, none⟩)), (8, .int .i64 i)]) (20) ?_ ?_
  · exact ⟨0, _, _, _, rfl, by omega, by omega, hE, hM, MadeP.empty, hB6, hB7, rfl, rfl, rfl, rfl, trivial⟩
  · rintro n e wr ⟨i, ov, us, xss, rfl, hi, hil0, hE, hM, hP, hB6, hB7, hH⟩
    obtain ⟨e, rfl⟩ := hH.ex
    clear hH
    have hlen := hP.len
    refine E.seq ?_
    refine E.seq ?_
    rcases (show ls.length ≤ i ∨ (i < ls.length ∧ 20 ≤ i) ∨ (i < ls.length ∧ i < 20) by omega) with hil | ⟨hil, hi20⟩ | ⟨hil, hi20⟩
    · refine E.regionP rfl ?_
      refine R.move ?_
      refine R.move ?_
      refine R.len Try.underlying33 hl rfl ?_
      refine R.lss (b := false) rfl rfl (decide_eq_false (by omega)) ?_
      refine R.move ?_
      refine R.gF rfl rfl rfl ?_
      refine R.gF rfl rfl rfl ?_
      refine R.pickF rfl ?_
      refine R.nil ?_
      refine E.condF rfl ?_
      refine E.exit ?_
      refine E.seq ?_
      refine E.regionP rfl ?_
      refine R.loadA t24 hB7 rfl rfl rfl trivial ?_
      refine R.storeA t24 hB6 rfl rfl rfl rfl (ones2 hM.outer.one rfl) nofun ?_
      intro w4 hU4 hs4 hN4
      replace hM := hM.upT hU4 hB6 (by decide)
      replace hB7 := hB7.up hU4 (fun h => ne6_7 h.symm)
      replace hE := hE.own hU4 hb6
      replace hB6 : Blk _ b6 24 #[ov, .int .i64 H] := hN4
      clear hN4
      refine R.nil ?_
      refine E.ret ?_
      obtain rfl : i = min ls.length 20 := by omega
      exact retA t24 hB6 rfl rfl rfl ⟨_, rfl, hE, _, _, _, rfl, hM, hP⟩
    · refine E.regionP rfl ?_
      refine R.move ?_
      refine R.move ?_
      refine R.len Try.underlying33 hl rfl ?_
      refine R.lss (b := true) rfl rfl (decide_eq_true (by omega)) ?_
      refine R.move ?_
      refine R.gT rfl rfl ?_
      refine R.move ?_
      refine R.gT rfl rfl ?_
      refine R.lss (b := false) rfl rfl (decide_eq_false (by omega)) ?_
      refine R.pickT rfl ?_
      refine R.nil ?_
      refine E.condF rfl ?_
      refine E.exit ?_
      refine E.seq ?_
      refine E.regionP rfl ?_
      refine R.loadA t24 hB7 rfl rfl rfl trivial ?_
      refine R.storeA t24 hB6 rfl rfl rfl rfl (ones2 hM.outer.one rfl) nofun ?_
      intro w5 hU5 hs5 hN5
      replace hM := hM.upT hU5 hB6 (by decide)
      replace hB7 := hB7.up hU5 (fun h => ne6_7 h.symm)
      replace hE := hE.own hU5 hb6
      replace hB6 : Blk _ b6 24 #[ov, .int .i64 H] := hN5
      clear hN5
      refine R.nil ?_
      refine E.ret ?_
      obtain rfl : i = min ls.length 20 := by omega
      exact retA t24 hB6 rfl rfl rfl ⟨_, rfl, hE, _, _, _, rfl, hM, hP⟩
    · refine E.regionP rfl ?_
      refine R.move ?_
      refine R.move ?_
      refine R.len Try.underlying33 hl rfl ?_
      refine R.lss (b := true) rfl rfl (decide_eq_true (by omega)) ?_
      refine R.move ?_
      refine R.gT rfl rfl ?_
      refine R.move ?_
      refine R.gT rfl rfl ?_
      refine R.lss (b := true) rfl rfl (decide_eq_true (by omega)) ?_
      refine R.pickT rfl ?_
      refine R.nil ?_
      refine E.condT rfl ?_
      refine E.skip ?_
      refine E.seq ?_
      refine E.block ?_
      refine E.seq ?_
      refine E.regionP rfl ?_
      refine R.fld fa24_0 rfl ?_
      refine R.loadB t22 hB7 rfl rfl rfl trivial ?_
      refine R.len Try.underlying22 hM.outer.row rfl ?_
      refine R.move ?_
      refine R.nil ?_
      refine E.block ?_
      refine E.loop (fun n e wr => ∃ (k : Nat), n = n0 - k ∧ k ≤ n0 ∧ Ext w wr ∧ MS w wr ov us xss ∧ Blk wr b6 24 #[.slice none 0 0, .int .i64 0] ∧ Blk wr b7 24 #[ov, .int .i64 H] ∧ Has e [(2, vl), (6, .pointer (some ⟨b6, 0, none⟩)), (7, .pointer (some ⟨b7, 0, none⟩)), (8, .int .i64 i), (33, .int .i64 n0), (34, .int .i64 k)]) (n0) ?_ ?_
      · exact ⟨0, rfl, Nat.zero_le _, hE, hM, hB6, hB7, rfl, rfl, rfl, rfl, by simp [upd, hlen], rfl, trivial⟩
      · rintro n e wr ⟨k, rfl, hk, hE, hM, hB6, hB7, hH⟩
        obtain ⟨e, rfl⟩ := hH.ex
        clear hH
        refine E.seq ?_
        refine E.regionP rfl ?_
        refine R.lss rfl rfl rfl ?_
        refine R.nil ?_
        refine E.seq ?_
        refine E.cond rfl (fun hc35 => ?_) (fun hc35 => ?_)
        · replace hc35 := dT hc35
          refine E.skip ?_
          refine E.seq ?_
          refine E.block ?_
          refine E.seq ?_
          refine E.regionP rfl ?_
          refine R.move ?_
          refine R.assign ?_
          refine R.nil ?_
          refine E.seq ?_
          refine E.regionW allS [] mixed rfl (by kernel_rfl) ?_
          intro w6 hx6 hh6
          replace hM := hM.ext hx6
          replace hB6 := hB6.ext hx6
          replace hB7 := hB7.ext hx6
          replace hE := hE.ext hx6
          refine R.move ?_
          refine R.move ?_
          refine R.ix Try.underlying33 t5 (by decide) hl rfl rfl (by omega) ?_
          refine R.ld t5 (hl.ext hE) rfl (u8_at (by omega)) rfl (fun _ _ => trivial) ?_
          have hli := hls ls[i] (List.getElem_mem _)
          refine R.conv64 Try.underlying5 Try.underlying3 rfl (by omega) (by omega) ?_
          refine R.move ?_
          refine R.addN (m := ls[i]) (n := k) rfl rfl (by omega) ?_
          refine R.fld fa24_0 rfl ?_
          refine R.loadB t22 hB7 rfl rfl rfl trivial ?_
          refine R.len Try.underlying22 hM.outer.row rfl ?_
          refine remU (m := ls[i] + k) (n := xss.length) rfl rfl (by omega) ?_
          refine R.assign ?_
          obtain ⟨a, had⟩ : ∃ a, (ls[i] + k) % xss.length = a := ⟨_, rfl⟩
          have hal : a < xss.length := by rw [← had]; exact Nat.mod_lt _ (by omega)
          rw [had]
          obtain ⟨u, hu, _⟩ := hM.get a hal
          have hxa := hP.row _ (List.getElem_mem hal)
          refine R.nil ?_
          refine E.seq ?_
          refine E.regionW allS [] mixed rfl (by kernel_rfl) ?_
          intro w7 hx7 hh7
          replace hM := hM.ext hx7
          replace hB6 := hB6.ext hx7
          replace hB7 := hB7.ext hx7
          replace hE := hE.ext hx7
          refine R.fld fa24_0 rfl ?_
          refine R.loadB t22 hB7 rfl rfl rfl trivial ?_
          refine R.move ?_
          refine R.ix Try.underlying22 t35 (by decide) hM.row rfl rfl hal ?_
          refine R.ld t35 hM.row rfl hu rfl (fun _ _ => trivial) ?_
          refine R.len Try.underlying35 (hM.rowOf hal hu).row rfl ?_
          refine R.fld fa24_1 rfl ?_
          refine R.loadB t3 hB7 rfl rfl rfl trivial ?_
          refine R.lss rfl rfl rfl ?_
          refine R.nil ?_
          refine E.cond rfl (fun hc56 => ?_) (fun hc56 => ?_)
          · replace hc56 := dT hc56
            refine E.seq ?_
            refine E.regionW (fun c x => x < w7.heap.size ∧ (c = false → vblk u ≠ some x ∧ vblk ov ≠ some x)) [64] mixed rfl (by kernel_rfl) ?_
            intro w8 hx8 hh8
            replace hM := hM.ext hx8
            replace hB6 := hB6.ext hx8
            replace hB7 := hB7.ext hx8
            replace hE := hE.ext hx8
            have hEs : Ext w8 w8 := Upd.refl _
            have hS0 := hx8.size
            have hSB : ∀ b, b < w8.heap.size → b < w7.heap.size ∧ (true = false → (fun x => vblk u ≠ some x ∧ vblk ov ≠ some x) b) := fun b hb => ⟨by rw [hh8] at hb; exact hb, nofun⟩
            have hSA : ∀ b, b < w8.heap.size → (fun x => vblk u ≠ some x ∧ vblk ov ≠ some x) b → b < w7.heap.size ∧ (false = false → (fun x => vblk u ≠ some x ∧ vblk ov ≠ some x) b) := fun b hb h => ⟨by rw [hh8] at hb; exact hb, fun _ => h⟩
            have hMs := hM
            have hB6s := hB6
            have hB7s := hB7
            refine R.fld fa24_0 rfl ?_
            refine R.loadB t22 (hB7s.ext hEs) rfl rfl rfl (hSA b7 hB7s.lt (⟨hB7.ne_vblk (hM.rowOf hal hu) (by decide), hB7.ne_vblk hM.outer (by decide)⟩)) ?_
            refine R.move ?_
            refine R.fld fa24_0 rfl ?_
            refine R.loadB t22 (hB7s.ext hEs) rfl rfl rfl (hSA b7 hB7s.lt (⟨hB7.ne_vblk (hM.rowOf hal hu) (by decide), hB7.ne_vblk hM.outer (by decide)⟩)) ?_
            refine R.move ?_
            refine R.ix Try.underlying22 t35 (by decide) hMs.row rfl rfl hal ?_
            refine R.ldE t35 hMs.row hEs rfl hu rfl hSB ?_
            refine R.move ?_
            refine R.addN (m := i) (n := 1) rfl rfl (by omega) ?_
            refine R.buildSlice [.int .i64 ((i + 1 : Nat) : Int)] Try.underlying35 t3 rfl rfl (by simp [Value.cells]) (by simp) (fun _ _ _ hb => Nat.lt_of_lt_of_le hb.1 (Nat.le_trans hS0 hEs.size)) ?_
            intro b67 w9 hb67 hx9 hB67 hS67
            replace hb67 := Nat.le_trans hE.size hb67
            replace hM := hM.ext hx9
            replace hB6 := hB6.ext hx9
            replace hB7 := hB7.ext hx9
            replace hE := hE.ext hx9
            replace hEs := hEs.ext hx9
            have hru : SInts _ u xss[a] := hM.rowOf hal hu
            have hMW := hM
            refine R.append (m := 1) Try.underlying35 Try.underlying35 t3 (by decide) rfl hru hS67.row (by simp [cellsOf, Value.cells, Value.oneCell']) rfl rfl (by omega) (by omega) (fun _ b hb => ⟨Nat.lt_of_lt_of_le hb.1 (Nat.le_trans hS0 hEs.size), (hb.2 rfl).1⟩) ?_
            intro v68 w68 hU68 hS68 hd68
            have hO := hM.outer.upS hU68 hru (by decide)
            replace hB6 := hB6.upS hU68 hru (by decide)
            replace hB7 := hB7.upS hU68 hru (by decide)
            have hsM := hE.size
            replace hE := hE.app hU68 (hM.fs u (List.mem_of_getElem? hu))
            have hR68 : SInts _ v68 (xss[a] ++ [((i + 1 : Nat) : Int)]) := SInts.app (ys := [((i + 1 : Nat) : Int)]) (m := 1) (by simpa [cellsOf, Value.cells, ints] using hS68) rfl
            clear hS67 hS68 hM
            refine R.ix Try.underlying22 t35 (by decide) hO.row rfl rfl hal ?_
            refine R.stE (u := v68) t35 hO rfl rfl hR68.one (by omega) (fun _ x hx h => (h.2 rfl).2 hx) ?_
            intro w83 hU83 hs83 hO83
            have hR83 := hR68.upS hU83 hO (by decide)
            replace hB6 := hB6.upS hU83 hO (by decide)
            replace hB7 := hB7.upS hU83 hO (by decide)
            replace hE := hE.app hU83 hMW.f
            have hM := MS.set hMW hu ((hU68.mono (fun _ _ h => .inl h)).trans hU83 (fun _ _ h => .inr h)) hO83 hR83 (fun b e => by
              rcases hd68 with ⟨h1, _⟩ | ⟨b', h1, h2, _⟩
              · exact .inl (h1 ▸ e)
              · rw [h1] at e; simp at e; subst e; exact .inr h2) hsM
            clear hMW hO hR68 hd68
            refine R.nil ?_
            refine E.exit ?_
            refine E.regionP rfl ?_
            refine R.move ?_
            refine R.addN (n := 1) rfl rfl (by omega) ?_
            refine R.assign ?_
            refine R.nil ?_
            exact ⟨20 - (i + 1), by omega, i + 1, _, _, _, rfl, by omega, by omega, hE, hM, hP.push hal (by omega), hB6, hB7, rfl, rfl, rfl, rfl, trivial⟩
          · replace hc56 := dF hc56
            refine E.skip ?_
            refine E.regionP rfl ?_
            refine R.addN (n := 1) rfl rfl (by omega) ?_
            refine R.move ?_
            refine R.nil ?_
            exact ⟨n0 - (k + 1), by omega, k + 1, rfl, by omega, hE, hM, hB6, hB7, rfl, rfl, rfl, rfl, rfl, rfl, trivial⟩
        · replace hc35 := dF hc35
          refine E.exit ?_
          refine E.regionP rfl ?_
          refine R.move ?_
          refine R.addN (n := 1) rfl rfl (by omega) ?_
          refine R.assign ?_
          refine R.nil ?_
          exact ⟨20 - (i + 1), by omega, i + 1, _, _, _, rfl, by omega, by omega, hE, hM, hP.mono, hB6, hB7, rfl, rfl, rfl, rfl, trivial⟩
end Go.Proofs.Ytfdmndkoiheebaa
