import Derived.Test.YtlplogplicgfiaaZ5JN
namespace Go.Proofs.Ytlplogplicgfiaa
open Go Go.RowKit
def bst (d : Dk) (e : Nat) (num : Nat) : Option (Hd × Nat × List Nat) → Option Rc
  | none => none
  | some (h, k, _) => if h.number + 1 ≠ num ∨ k + 1 ≠ h.total ∨ d.n < h.total then none
    else match findL d ((e + d.n - k) % d.n) h with
      | none => none
      | some rec => some ⟨h, (e + d.n - k) % d.n, rec⟩
def bAt (d : Dk) (e num i : Nat) : Option Rc := bst d e num (tk d ((e + i * d.n : Nat) : Int))
def beforeE (d : Dk) (e num : Nat) : Option Rc :=
  match bAt d e num 0 with
  | some x => some x
  | none => bAt d e num 1
def beforeL (d : Dk) (a num : Nat) : Option Rc := beforeE d ((a + d.n - 1) % d.n) num
theorem bAt_none {d : Dk} {e num i : Nat} (h : tk d ((e + i * d.n : Nat) : Int) = none) : bAt d e num i = none := by unfold bAt; rw [h]; rfl
theorem bAt_off {d : Dk} {e num i : Nat} {g : Hd} {j : Nat} {dt : List Nat} (h : tk d ((e + i * d.n : Nat) : Int) = some (g, j, dt)) (hc : g.number + 1 ≠ num ∨ j + 1 ≠ g.total ∨ d.n < g.total) : bAt d e num i = none := by
  unfold bAt; rw [h]; simp only [bst, if_pos hc]
theorem bAt_miss {d : Dk} {e num i : Nat} {g : Hd} {j : Nat} {dt : List Nat} (h : tk d ((e + i * d.n : Nat) : Int) = some (g, j, dt)) (hf : findL d ((e + d.n - j) % d.n) g = none) : bAt d e num i = none := by
  unfold bAt; rw [h]; simp only [bst, hf]; split <;> rfl
theorem bAt_hit {d : Dk} {e num i : Nat} {g : Hd} {j : Nat} {dt rec : List Nat} (h : tk d ((e + i * d.n : Nat) : Int) = some (g, j, dt)) (hc : ¬ (g.number + 1 ≠ num ∨ j + 1 ≠ g.total ∨ d.n < g.total)) (hf : findL d ((e + d.n - j) % d.n) g = some rec) : bAt d e num i = some ⟨g, (e + d.n - j) % d.n, rec⟩ := by
  unfold bAt; rw [h]; simp only [bst, hf, if_neg hc]
theorem before_none {d : Dk} {e num : Nat} (hz : ∀ j, j < 2 → bAt d e num j = none) : beforeE d e num = none := by
  unfold beforeE; rw [hz 0 (by decide)]; exact hz 1 (by decide)
theorem before_some {d : Dk} {e num i : Nat} {x : Rc} (hi : i < 2) (hz : ∀ j, j < i → bAt d e num j = none) (hh : bAt d e num i = some x) : beforeE d e num = some x := by
  unfold beforeE
  rcases (show i = 0 ∨ i = 1 by omega) with rfl | rfl
  · rw [hh]
  · rw [hz 0 (by decide)]; exact hh
def BRes (w w' : World) (r : Value) : Option Rc → Prop
  | none => r = .tuple #[.agg (rcC Rc0 (.slice none 0 0)), .bool false]
  | some x => ∃ u, r = .tuple #[.agg (rcC x u), .bool true] ∧ SU8s w' u x.dat ∧ Fresh w u
theorem DM.upB5 {X : Nat → Prop} {w w' : World} {p b : Nat} {vb vd : Value} {d : Dk} (h : DM w p vb vd d) (u : Upd X w w') (hX : ∀ x, X x → (∃ ty cs, Blk w x ty cs ∧ 25 ≠ ty ∧ 27 ≠ ty ∧ 4 ≠ ty) ∨ (∃ r, Obj1 w x (.loop r)) ∨ x = b) (hb : ¬ (p = b ∨ vblk vb = some b ∨ vblk vd = some b)) : DM w' p vb vd d := by
  refine h.up u (fun e => ?_) (fun b' hb' e => ?_) (fun b' hb' e => ?_)
  · rcases hX _ e with ⟨ty, cs, q, h1, _⟩ | ⟨r, q⟩ | q
    · exact h.blk.ne q h1 rfl
    · exact q.neB h.blk (by simp) rfl
    · exact hb (.inl q)
  · obtain ⟨cur, hc⟩ := h.bls.blk hb'
    rcases hX _ e with ⟨ty, cs, q, _, h1, _⟩ | ⟨r, q⟩ | q
    · exact hc.ne q h1 rfl
    · exact q.neB hc (by simp) rfl
    · exact hb (.inr (.inl (q ▸ hb')))
  · obtain ⟨cur, hc⟩ := h.bds.blk hb'
    rcases hX _ e with ⟨ty, cs, q, _, _, h1⟩ | ⟨r, q⟩ | q
    · exact hc.ne q h1 rfl
    · exact q.neB hc (by simp) rfl
    · exact hb (.inr (.inr (q ▸ hb')))
set_option maxHeartbeats 800000 in
theorem before_ (w : World) {b900 x1 num x3 x4 a : Nat} {u0 vb vd : Value} {d : Dk} (hD : DM w b900 vb vd d) (hn : 0 < d.n) (ha : a ≤ 1000000) (hnum : 1 ≤ num) (hnumb : num ≤ 4294967296) :
    Calls Try.prog 58 #[.pointer (some ⟨b900, 0, none⟩), .agg #[.int .i64 ((x1 : Nat) : Int), .int .i64 ((num : Nat) : Int), .int .i64 ((x3 : Nat) : Int), .int .i64 ((x4 : Nat) : Int), .int .i64 ((a : Nat) : Int), u0]] w (Ret fun r w' => Ext w w' ∧ BRes w w' r (beforeL d a num)) := by
  have hnl := d.n_le
  refine calls_M (args := [.pointer (some ⟨b900, 0, none⟩), .agg #[.int .i64 ((x1 : Nat) : Int), .int .i64 ((num : Nat) : Int), .int .i64 ((x3 : Nat) : Int), .int .i64 ((x4 : Nat) : Int), .int .i64 ((a : Nat) : Int), u0]]) 62 Try.func58 rfl rfl (by simp) ?_
  have hE : Ext w w := Upd.refl w
  refine E.seq ?_
  refine E.regionP rfl ?_
  refine R.box rfl nofun ?_
  intro b2 w1 hb2 hx1 hB2
  replace hb2 := Nat.le_trans hE.size hb2
  replace hD := hD.ext hx1
  replace hE := hE.ext hx1
  replace hB2 : Blk _ b2 32 #[.pointer (some ⟨b900, 0, none⟩)] := hB2
  refine R.box rfl nofun ?_
  intro b3 w2 hb3 hx2 hB3
  replace hb3 := Nat.le_trans hE.size hb3
  replace hD := hD.ext hx2
  replace hB2 := hB2.ext hx2
  replace hE := hE.ext hx2
  replace hB3 : Blk _ b3 106 #[.int .i64 ((x1 : Nat) : Int), .int .i64 ((num : Nat) : Int), .int .i64 ((x3 : Nat) : Int), .int .i64 ((x4 : Nat) : Int), .int .i64 ((a : Nat) : Int), u0] := hB3
  refine R.alloc t106 nofun ?_
  intro b4 w3 hb4 hx3 hB4
  have ne3_4 : b3 ≠ b4 := by have := hB3.lt; omega
  replace hb4 := Nat.le_trans hE.size hb4
  replace hD := hD.ext hx3
  replace hB2 := hB2.ext hx3
  replace hB3 := hB3.ext hx3
  replace hE := hE.ext hx3
  replace hB4 : Blk _ b4 106 #[.int .i64 ((0 : Nat) : Int), .int .i64 ((0 : Nat) : Int), .int .i64 ((0 : Nat) : Int), .int .i64 ((0 : Nat) : Int), .int .i64 ((0 : Nat) : Int), .slice none 0 0] := hB4
  refine R.alloc t4 nofun ?_
  intro b5 w4 hb5 hx4 hB5
  have hn_hD_5 := hD.new hb5
  replace hb5 := Nat.le_trans hE.size hb5
  replace hD := hD.ext hx4
  replace hB2 := hB2.ext hx4
  replace hB3 := hB3.ext hx4
  replace hB4 := hB4.ext hx4
  replace hE := hE.ext hx4
  replace hB5 : Blk _ b5 4 #[.bool (false)] := hB5
  have hnb5 := hn_hD_5
  refine R.nil ?_
  refine E.seq ?_
  refine E.regionP rfl ?_
  refine R.loadB t32 hB2 rfl rfl rfl trivial ?_
  refine R.callE1 ent43 (places_ _ hD) rfl nofun ?_
  rintro v13 w5 hx5 rfl
  replace hD := hD.ext hx5
  replace hB2 := hB2.ext hx5
  replace hB3 := hB3.ext hx5
  replace hB4 := hB4.ext hx5
  replace hB5 := hB5.ext hx5
  replace hE := hE.ext hx5
  refine R.alloc t3 nofun ?_
  intro b6 w6 hb6 hx6 hB6
  replace hb6 := Nat.le_trans hE.size hb6
  replace hD := hD.ext hx6
  replace hB2 := hB2.ext hx6
  replace hB3 := hB3.ext hx6
  replace hB4 := hB4.ext hx6
  replace hB5 := hB5.ext hx6
  replace hE := hE.ext hx6
  replace hB6 : Blk _ b6 3 #[.int .i64 ((0 : Nat) : Int)] := hB6
  refine R.store t3 hB6 rfl rfl (rfl) (by simp) nofun ?_
  intro w7 hU7 hs7 hN7
  replace hD := hD.upT hU7 hB6 (by decide)
  replace hB2 := hB2.upT hU7 hB6 (by decide)
  replace hB3 := hB3.upT hU7 hB6 (by decide)
  replace hB4 := hB4.upT hU7 hB6 (by decide)
  replace hB5 := hB5.upT hU7 hB6 (by decide)
  replace hE := hE.own hU7 hb6
  replace hB6 : Blk _ b6 3 #[.int .i64 ((d.n : Nat) : Int)] := hN7
  clear hN7
  refine R.nil ?_
  refine E.seq ?_
  refine E.regionP rfl ?_
  refine R.fld fa106_1 rfl ?_
  refine R.loadB t3 hB3 rfl rfl rfl trivial ?_
  refine R.loadB t3 hB6 rfl rfl rfl trivial ?_
  refine R.addN (m := a) (n := d.n) rfl rfl (by omega) ?_
  refine R.subN (m := (a + d.n)) (n := 1) rfl rfl (by omega) (by omega) ?_
  refine R.loadB t3 hB6 rfl rfl rfl trivial ?_
  refine R.remN (m := ((a + d.n) - 1)) (n := d.n) rfl rfl hn ?_
  refine R.alloc t3 nofun ?_
  intro b7 w8 hb7 hx8 hB7
  have ne6_7 : b6 ≠ b7 := by have := hB6.lt; omega
  replace hb7 := Nat.le_trans hE.size hb7
  replace hD := hD.ext hx8
  replace hB2 := hB2.ext hx8
  replace hB3 := hB3.ext hx8
  replace hB4 := hB4.ext hx8
  replace hB5 := hB5.ext hx8
  replace hB6 := hB6.ext hx8
  replace hE := hE.ext hx8
  replace hB7 : Blk _ b7 3 #[.int .i64 ((0 : Nat) : Int)] := hB7
  refine R.store t3 hB7 rfl rfl (rfl) (by simp) nofun ?_
  intro w9 hU9 hs9 hN9
  replace hD := hD.upT hU9 hB7 (by decide)
  replace hB2 := hB2.upT hU9 hB7 (by decide)
  replace hB3 := hB3.upT hU9 hB7 (by decide)
  replace hB4 := hB4.upT hU9 hB7 (by decide)
  replace hB5 := hB5.upT hU9 hB7 (by decide)
  replace hB6 := hB6.up hU9 (fun h => ne6_7 h)
  replace hE := hE.own hU9 hb7
  replace hB7 : Blk _ b7 3 #[.int .i64 ((((a + d.n) - 1) % d.n : Nat) : Int)] := hN9
  clear hN9
  refine R.nil ?_
  refine E.seq ?_
  refine E.seq ?_
  refine E.regionP rfl ?_
  refine R.loadB t32 hB2 rfl rfl rfl trivial ?_
  refine R.loadB t3 hB7 rfl rfl rfl trivial ?_
  refine R.callE2 ent68 (twins_ _) rfl rfl nofun ?_
  rintro v23 w10 hx10 ⟨c2, c3, rfl, hc2, hc3, hBc3, hBc2⟩
  replace hD := hD.ext hx10
  replace hB2 := hB2.ext hx10
  replace hB3 := hB3.ext hx10
  replace hB4 := hB4.ext hx10
  replace hB5 := hB5.ext hx10
  replace hB6 := hB6.ext hx10
  replace hB7 := hB7.ext hx10
  replace hE := hE.ext hx10
  refine R.nil ?_
  refine E.block ?_
  refine E.forgetM [(2, .pointer (some ⟨b2, 0, none⟩)), (3, .pointer (some ⟨b3, 0, none⟩)), (4, .pointer (some ⟨b4, 0, none⟩)), (5, .pointer (some ⟨b5, 0, none⟩)), (6, .pointer (some ⟨b6, 0, none⟩)), (7, .pointer (some ⟨b7, 0, none⟩)), (23, .func (.func 72) #[] #[.pointer (some ⟨c3, 0, none⟩), .pointer (some ⟨c2, 0, none⟩)])] ⟨rfl, rfl, rfl, rfl, rfl, rfl, rfl, trivial⟩ (fun e0 he0 => ?_)
  have hms0 : e0.ms = [] := he0
  clear he0
  refine E.rangeF (gf := 72) (cap := #[.pointer (some ⟨c3, 0, none⟩), .pointer (some ⟨c2, 0, none⟩)]) rfl ent72 ?_
  intro wl r D hxl hDl hDo hLo hLr hrs hrp
  have hDw : w.heap.size ≤ D := Nat.le_trans hE.size hDl
  replace hD := hD.ext hxl
  replace hBc2 := hBc2.ext hxl
  replace hBc3 := hBc3.ext hxl
  replace hB2 := hB2.ext hxl
  replace hB3 := hB3.ext hxl
  replace hB4 := hB4.ext hxl
  replace hB5 := hB5.ext hxl
  replace hB6 := hB6.ext hxl
  replace hB7 := hB7.ext hxl
  replace hE := hE.ext hxl
  have hwl0 := hE.size
  have hB4o := hB4
  have hB5o := hB5
  have hX : ∀ x, (fun x => x = b4 ∨ x = b5 ∨ x = D + 1) x → (∃ ty cs, Blk wl x ty cs ∧ 25 ≠ ty ∧ 27 ≠ ty ∧ 4 ≠ ty) ∨ (∃ r, Obj1 wl x (.loop r)) ∨ x = b5 := by
    rintro x (rfl | rfl | rfl)
    · exact .inl ⟨_, _, hB4, by decide, by decide, by decide⟩
    · exact .inr (.inr rfl)
    · exact .inr (.inl ⟨_, hLo⟩)
  have hN2 : ¬ (fun x => x = b4 ∨ x = b5 ∨ x = D + 1) b2 := fun e => e.elim (fun e => hB2.ne hB4 (by decide) e) (fun e => e.elim (fun e => hB2.ne hB5 (by decide) e) (fun e => hLo.neB hB2 (by simp) e.symm))
  have hN3 : ¬ (fun x => x = b4 ∨ x = b5 ∨ x = D + 1) b3 := fun e => e.elim (fun e => ne3_4 e) (fun e => e.elim (fun e => hB3.ne hB5 (by decide) e) (fun e => hLo.neB hB3 (by simp) e.symm))
  have hN6 : ¬ (fun x => x = b4 ∨ x = b5 ∨ x = D + 1) b6 := fun e => e.elim (fun e => hB6.ne hB4 (by decide) e) (fun e => e.elim (fun e => hB6.ne hB5 (by decide) e) (fun e => hLo.neB hB6 (by simp) e.symm))
  have hN7 : ¬ (fun x => x = b4 ∨ x = b5 ∨ x = D + 1) b7 := fun e => e.elim (fun e => hB7.ne hB4 (by decide) e) (fun e => e.elim (fun e => hB7.ne hB5 (by decide) e) (fun e => hLo.neB hB7 (by simp) e.symm))
  have hNc2 : ¬ (fun x => x = b4 ∨ x = b5 ∨ x = D + 1) c2 := fun e => e.elim (fun e => hBc2.ne hB4 (by decide) e) (fun e => e.elim (fun e => hBc2.ne hB5 (by decide) e) (fun e => hLo.neB hBc2 (by simp) e.symm))
  have hNc3 : ¬ (fun x => x = b4 ∨ x = b5 ∨ x = D + 1) c3 := fun e => e.elim (fun e => hBc3.ne hB4 (by decide) e) (fun e => e.elim (fun e => hBc3.ne hB5 (by decide) e) (fun e => hLo.neB hBc3 (by simp) e.symm))
  have hge : ∀ x, (fun x => x = b4 ∨ x = b5 ∨ x = D + 1) x → w.heap.size ≤ x := by rintro x (e | e | e) <;> omega
  have hDX : ∀ {w'}, Upd (fun x => x = b4 ∨ x = b5 ∨ x = D + 1) wl w' → DM w' b900 vb vd d := fun u => hD.upB5 u hX hnb5
  refine (twins1 wl (l := D + 1) (b900 := b900) (b901 := c3) (b902 := c2) (pl := ((a + d.n - 1) % d.n)) (d := d) (vb := vb) (vd := vd) (Inv := fun i wr => Obj1 wr (D + 1) (.loop r) ∧ Upd (fun x => x = b4 ∨ x = b5 ∨ x = D + 1) wl wr ∧ Blk wr b4 106 #[.int .i64 ((0 : Nat) : Int), .int .i64 ((0 : Nat) : Int), .int .i64 ((0 : Nat) : Int), .int .i64 ((0 : Nat) : Int), .int .i64 ((0 : Nat) : Int), .slice none 0 0] ∧ Blk wr b5 4 #[.bool (false)] ∧ ∀ j, j < i → bAt d ((a + d.n - 1) % d.n) num j = none) (Stop := fun wr => Obj1 wr (D + 1) (.loop { r with state := .done, pending := some .ret }) ∧ Upd (fun x => x = b4 ∨ x = b5 ∨ x = D + 1) wl wr ∧ ∃ x u, beforeE d ((a + d.n - 1) % d.n) num = some x ∧ Blk wr b4 106 (rcC x u) ∧ SU8s wr u x.dat ∧ Fresh w u ∧ Blk wr b5 4 #[.bool (true)]) ?_ (by have := Nat.mod_lt (a + d.n - 1) hn; omega) ?_ ?_ ?_ ?_).mono ?_
  · exact ⟨hLo, Upd.refl _, hB4, hB5, fun j hj => absurd hj (Nat.not_lt_zero _)⟩
  · rintro i wr ⟨q1, q2, q3, q4, q5⟩
    exact ⟨hDX q2, hBc3.up q2 hNc3, hBc2.up q2 hNc2⟩
  · rintro i wr w' ⟨q1, q2, q3, q4, q5⟩ q
    exact ⟨q1.ext q, q2.ext q, q3.ext q, q4.ext q, q5⟩
  · rintro i hi wr hq ⟨q1, q2, q3, q4, q5⟩
    exact ⟨q1, q2, q3, q4, snoc_none q5 (bAt_none hq)⟩
  · rintro i hi g j dt wr hq ⟨hL1, hE, hB4, hB5, hz⟩
    replace hD := hDX hE
    replace hB2 := hB2.up hE hN2
    replace hB3 := hB3.up hE hN3
    replace hB6 := hB6.up hE hN6
    replace hB7 := hB7.up hE hN7
    obtain ⟨hjt, ht84, _⟩ := tk_total hq
    have hel := Nat.mod_lt (a + d.n - 1) hn
    refine yields2 hLr hL1 hrs (by decide) (by decide) ?_
    refine E.seq ?_
    refine E.regionP rfl ?_
    refine R.alloc t103 nofun ?_
    intro b8 w11 hb8 hx11 hB8
    replace hb8 := Nat.le_trans hE.size hb8
    replace hD := hD.ext hx11
    replace hL1 := hL1.ext hx11
    replace hB2 := hB2.ext hx11
    replace hB3 := hB3.ext hx11
    replace hB4 := hB4.ext hx11
    replace hB5 := hB5.ext hx11
    replace hB6 := hB6.ext hx11
    replace hB7 := hB7.ext hx11
    replace hE := hE.ext hx11
    replace hB8 : Blk _ b8 103 #[.int .i64 ((0 : Nat) : Int), .int .i64 ((0 : Nat) : Int), .int .i64 ((0 : Nat) : Int), .int .i64 ((0 : Nat) : Int)] := hB8
    refine R.storeA t103 hB8 rfl rfl rfl rfl (ones4 rfl rfl rfl rfl) nofun ?_
    intro w12 hU12 hs12 hN12
    replace hD := hD.upT hU12 hB8 (by decide)
    replace hL1 := hL1.upT hU12 hB8 (by decide)
    replace hB2 := hB2.upT hU12 hB8 (by decide)
    replace hB3 := hB3.upT hU12 hB8 (by decide)
    replace hB4 := hB4.upT hU12 hB8 (by decide)
    replace hB5 := hB5.upT hU12 hB8 (by decide)
    replace hB6 := hB6.upT hU12 hB8 (by decide)
    replace hB7 := hB7.upT hU12 hB8 (by decide)
    replace hE := hE.own hU12 hb8
    replace hB8 : Blk _ b8 103 #[.int .i64 ((g.total : Nat) : Int), .int .i64 ((g.number : Nat) : Int), .int .i64 ((g.life : Nat) : Int), .int .i64 ((g.first : Nat) : Int)] := hN12
    clear hN12
    refine R.nil ?_
    refine E.regionP rfl ?_
    refine R.assign ?_
    refine R.nil ?_
    refine beginQ_n hL1 (fun w2 hU2 hL2 => ?_)
    replace hD := hD.upX hU2 (fun x e => .inr ⟨r, by have e1 : x = D + 1 := e; rw [e1]; exact hL1⟩)
    replace hB2 := hB2.up hU2 (fun e => hL1.neB hB2 (by simp) e.symm)
    replace hB3 := hB3.up hU2 (fun e => hL1.neB hB3 (by simp) e.symm)
    replace hB4 := hB4.up hU2 (fun e => hL1.neB hB4 (by simp) e.symm)
    replace hB5 := hB5.up hU2 (fun e => hL1.neB hB5 (by simp) e.symm)
    replace hB6 := hB6.up hU2 (fun e => hL1.neB hB6 (by simp) e.symm)
    replace hB7 := hB7.up hU2 (fun e => hL1.neB hB7 (by simp) e.symm)
    replace hB8 := hB8.up hU2 (fun e => hL1.neB hB8 (by simp) e.symm)
    replace hE := hE.trans hU2 (fun x _ h => .inr (.inr h))
    clear hL1
    have hL1 := hL2
    refine E.block ?_
    refine E.seq ?_
    refine E.seq ?_
    refine E.regionP rfl ?_
    refine R.fld fa103_1 rfl ?_
    refine R.loadB t3 hB8 rfl rfl rfl trivial ?_
    refine R.fld fa106_0 rfl ?_
    refine R.fld fa103_1 rfl ?_
    refine R.loadB t3 hB3 rfl rfl rfl trivial ?_
    refine R.subN (m := num) (n := 1) rfl rfl (by omega) (by omega) ?_
    refine R.neq (b := !decide ((((g.number : Nat) : Int)) = (((num - 1 : Nat) : Int)))) rfl rfl rfl ?_
    refine R.move ?_
    have hg33 := Bool.eq_false_or_eq_true (!decide ((((g.number : Nat) : Int)) = (((num - 1 : Nat) : Int))))
    rcases hg33 with hg33 | hg33
    · have hg33q := hg33
      replace hg33 := nT hg33
      refine R.gF rfl (congrArg Value.bool hg33q) rfl ?_
      refine R.gF rfl (congrArg Value.bool hg33q) rfl ?_
      refine R.gF rfl (congrArg Value.bool hg33q) rfl ?_
      refine R.gF rfl (congrArg Value.bool hg33q) rfl ?_
      refine R.gF rfl (congrArg Value.bool hg33q) rfl ?_
      refine R.pickT (congrArg Value.bool hg33q) ?_
      refine R.move ?_
      refine R.gF rfl rfl rfl ?_
      refine R.gF rfl rfl rfl ?_
      refine R.gF rfl rfl rfl ?_
      refine R.gF rfl rfl rfl ?_
      refine R.pickT rfl ?_
      refine R.nil ?_
      refine E.condT rfl ?_
      refine E.exit ?_
      refine thn_x (blk_x (roundQ_n hL1 (fun w7 hU7 hL7 => ?_)))
      exact ⟨true, rfl, fun _ => ⟨by rw [loop_back hrs hrp] at hL7; exact hL7, hE.trans hU7 (fun x _ h => .inr (.inr h)), hB4.up hU7 (fun e => hL1.neB hB4 (by simp) e.symm), hB5.up hU7 (fun e => hL1.neB hB5 (by simp) e.symm), snoc_none hz (bAt_off hq (by omega))⟩, nofun⟩
    · have hg33q := hg33
      replace hg33 := nF hg33
      refine R.gT rfl (congrArg Value.bool hg33q) ?_
      refine R.move ?_
      refine R.gT rfl (congrArg Value.bool hg33q) ?_
      refine R.fld fa103_0 rfl ?_
      refine R.gT rfl (congrArg Value.bool hg33q) ?_
      refine R.loadB t3 hB8 rfl rfl rfl trivial ?_
      refine R.gT rfl (congrArg Value.bool hg33q) ?_
      refine R.subN (m := g.total) (n := 1) rfl rfl (by omega) (by omega) ?_
      refine R.gT rfl (congrArg Value.bool hg33q) ?_
      refine R.neq (b := !decide ((((j : Nat) : Int)) = (((g.total - 1 : Nat) : Int)))) rfl rfl rfl ?_
      refine R.pickF (congrArg Value.bool hg33q) ?_
      refine R.move ?_
      have hg40 := Bool.eq_false_or_eq_true (!decide ((((j : Nat) : Int)) = (((g.total - 1 : Nat) : Int))))
      rcases hg40 with hg40 | hg40
      · have hg40q := hg40
        replace hg40 := nT hg40
        refine R.gF rfl (congrArg Value.bool hg40q) rfl ?_
        refine R.gF rfl (congrArg Value.bool hg40q) rfl ?_
        refine R.gF rfl (congrArg Value.bool hg40q) rfl ?_
        refine R.gF rfl (congrArg Value.bool hg40q) rfl ?_
        refine R.pickT (congrArg Value.bool hg40q) ?_
        refine R.nil ?_
        refine E.condT rfl ?_
        refine E.exit ?_
        refine thn_x (blk_x (roundQ_n hL1 (fun w7 hU7 hL7 => ?_)))
        exact ⟨true, rfl, fun _ => ⟨by rw [loop_back hrs hrp] at hL7; exact hL7, hE.trans hU7 (fun x _ h => .inr (.inr h)), hB4.up hU7 (fun e => hL1.neB hB4 (by simp) e.symm), hB5.up hU7 (fun e => hL1.neB hB5 (by simp) e.symm), snoc_none hz (bAt_off hq (by omega))⟩, nofun⟩
      · have hg40q := hg40
        replace hg40 := nF hg40
        refine R.gT rfl (congrArg Value.bool hg40q) ?_
        refine R.fld fa103_0 rfl ?_
        refine R.gT rfl (congrArg Value.bool hg40q) ?_
        refine R.loadB t3 hB8 rfl rfl rfl trivial ?_
        refine R.gT rfl (congrArg Value.bool hg40q) ?_
        refine R.loadB t3 hB6 rfl rfl rfl trivial ?_
        refine R.gT rfl (congrArg Value.bool hg40q) ?_
        refine R.gtr (b := decide ((((d.n : Nat) : Int)) < (((g.total : Nat) : Int)))) rfl rfl rfl ?_
        refine R.pickF (congrArg Value.bool hg40q) ?_
        refine R.nil ?_
        refine E.cond (b := decide ((((d.n : Nat) : Int)) < (((g.total : Nat) : Int)))) rfl (fun hc45 => ?_) (fun hc45 => ?_)
        · replace hc45 := dT hc45
          refine E.exit ?_
          refine thn_x (blk_x (roundQ_n hL1 (fun w7 hU7 hL7 => ?_)))
          exact ⟨true, rfl, fun _ => ⟨by rw [loop_back hrs hrp] at hL7; exact hL7, hE.trans hU7 (fun x _ h => .inr (.inr h)), hB4.up hU7 (fun e => hL1.neB hB4 (by simp) e.symm), hB5.up hU7 (fun e => hL1.neB hB5 (by simp) e.symm), snoc_none hz (bAt_off hq (by omega))⟩, nofun⟩
        · replace hc45 := dF hc45
          refine E.skip ?_
          refine E.seq ?_
          refine E.forgetM [(2, .pointer (some ⟨b2, 0, none⟩)), (4, .pointer (some ⟨b4, 0, none⟩)), (5, .pointer (some ⟨b5, 0, none⟩)), (6, .pointer (some ⟨b6, 0, none⟩)), (7, .pointer (some ⟨b7, 0, none⟩)), (8, .pointer (some ⟨b8, 0, none⟩)), (9, .int .i64 ((j : Nat) : Int))] ⟨rfl, rfl, rfl, rfl, rfl, rfl, rfl, trivial⟩ (fun e he => ?_)
          clear he
          have hW0 := hE.size
          refine E.regionF (fun c x => x < w2.heap.size ∧ (c = false → True)) [] [56] mixed rfl (by kernel_rfl) (fun _ _ h => h.1) ?_
          intro w13 hx13 hh13
          replace hD := hD.ext hx13
          replace hL1 := hL1.ext hx13
          replace hB2 := hB2.ext hx13
          replace hB3 := hB3.ext hx13
          replace hB4 := hB4.ext hx13
          replace hB5 := hB5.ext hx13
          replace hB6 := hB6.ext hx13
          replace hB7 := hB7.ext hx13
          replace hB8 := hB8.ext hx13
          replace hE := hE.ext hx13
          have hEs : Ext w13 w13 := Upd.refl _
          have hS0 := hx13.size
          have hSB : ∀ b, b < w13.heap.size → b < w2.heap.size ∧ (true = false → (fun x => True) b) := fun b hb => ⟨by rw [hh13] at hb; exact hb, nofun⟩
          have hSA : ∀ b, b < w13.heap.size → (fun x => True) b → b < w2.heap.size ∧ (false = false → (fun x => True) b) := fun b hb h => ⟨by rw [hh13] at hb; exact hb, fun _ => h⟩
          have hSO : ∀ b, b < wl.heap.size → b < w2.heap.size ∧ (false = false → (fun x => True) b) := fun b hb => hSA b (Nat.lt_of_lt_of_le hb hE.size) (trivial)
          have hDs := hD
          have hL1s := hL1
          have hB2s := hB2
          have hB3s := hB3
          have hB4s := hB4
          have hB5s := hB5
          have hB6s := hB6
          have hB7s := hB7
          have hB8s := hB8
          refine G.q rfl (Nat.le_of_ble_eq_true rfl) ?_
          refine R.loadB t32 hB2 rfl rfl rfl (hSA b2 hB2s.lt (trivial)) ?_
          refine R.nil ?_
          refine G.q rfl (Nat.le_of_ble_eq_true rfl) ?_
          refine R.loadB t3 hB7 rfl rfl rfl (hSA b7 hB7s.lt (trivial)) ?_
          refine R.nil ?_
          refine G.q rfl (Nat.le_of_ble_eq_true rfl) ?_
          refine R.loadB t3 hB6 rfl rfl rfl (hSA b6 hB6s.lt (trivial)) ?_
          refine R.nil ?_
          refine G.q rfl (Nat.le_of_ble_eq_true rfl) ?_
          refine R.addN (m := (((a + d.n - 1) % d.n))) (n := d.n) rfl rfl (by omega) ?_
          refine R.nil ?_
          refine G.q rfl (Nat.le_of_ble_eq_true rfl) ?_
          refine R.move ?_
          refine R.nil ?_
          refine G.q rfl (Nat.le_of_ble_eq_true rfl) ?_
          refine R.subN (m := ((((a + d.n - 1) % d.n)) + d.n)) (n := j) rfl rfl (by omega) (by omega) ?_
          refine R.nil ?_
          refine G.q rfl (Nat.le_of_ble_eq_true rfl) ?_
          refine R.loadB t3 hB6 rfl rfl rfl (hSA b6 hB6s.lt (trivial)) ?_
          refine R.nil ?_
          refine G.q rfl (Nat.le_of_ble_eq_true rfl) ?_
          refine R.remN (m := (((((a + d.n - 1) % d.n)) + d.n) - j)) (n := d.n) rfl rfl hn ?_
          refine R.nil ?_
          refine G.q rfl (Nat.le_of_ble_eq_true rfl) ?_
          refine R.loadA t103 hB8 rfl rfl rfl (hSA b8 hB8s.lt (trivial)) ?_
          refine R.nil ?_
          refine G.l rfl rfl (.inl rfl) (Nat.le_of_ble_eq_true rfl) ?_
          intro w14 hx14
          replace hD := hD.ext hx14
          replace hL1 := hL1.ext hx14
          replace hB2 := hB2.ext hx14
          replace hB3 := hB3.ext hx14
          replace hB4 := hB4.ext hx14
          replace hB5 := hB5.ext hx14
          replace hB6 := hB6.ext hx14
          replace hB7 := hB7.ext hx14
          replace hB8 := hB8.ext hx14
          replace hE := hE.ext hx14
          replace hEs := hEs.ext hx14
          refine R.callE3 ent69 (find_ _ hD (a := (((((a + d.n - 1) % d.n)) + d.n) - j) % d.n) (h := g) hn (by have := Nat.mod_lt ((a + d.n - 1) % d.n + d.n - j) hn; omega) (by omega) ht84) rfl rfl rfl (fun _ _ hb => G.S1_lt (fun _ _ h => h.1) (Nat.le_trans hS0 hEs.size) hb) ?_
          rintro v56 w15 hx15 hT56
          have hE0 := hE
          replace hD := hD.ext hx15
          replace hL1 := hL1.ext hx15
          replace hB2 := hB2.ext hx15
          replace hB3 := hB3.ext hx15
          replace hB4 := hB4.ext hx15
          replace hB5 := hB5.ext hx15
          replace hB6 := hB6.ext hx15
          replace hB7 := hB7.ext hx15
          replace hB8 := hB8.ext hx15
          replace hE := hE.ext hx15
          replace hEs := hEs.ext hx15
          refine R.nil ⟨hx15.size, ?_⟩
          intro K14 hK14 hN14
          have hk56 := optCases (findL d ((((((a + d.n - 1) % d.n)) + d.n) - j) % d.n) g)
          rcases hk56 with hk56 | ⟨rc56, hk56⟩
          · rw [hk56] at hT56
            replace hT56 : _ = Value.tuple _ := hT56
            subst hT56
            refine G.q rfl (Nat.le_of_ble_eq_true rfl) ?_
            refine R.move ?_
            refine R.nil ?_
            refine G.q rfl (Nat.le_of_ble_eq_true rfl) ?_
            refine R.extract rfl rfl ?_
            refine R.nil ?_
            refine G.q rfl (Nat.le_of_ble_eq_true rfl) ?_
            refine R.extract rfl rfl ?_
            refine R.nil ?_
            refine G.alloc t106 ?_
            intro w16 b10 K16 hx16 hb10 hn10 hK16 hk10 hB10
            have ne3_10 : b3 ≠ b10 := by have h1 := hB3s.lt; rw [hh13] at h1; omega
            have ne4_10 : b4 ≠ b10 := by have h1 := hB4s.lt; rw [hh13] at h1; omega
            have hn010 := hb10
            replace hb10 := Nat.le_trans hW0 hb10
            replace hD := hD.ext hx16
            replace hL1 := hL1.ext hx16
            replace hB2 := hB2.ext hx16
            replace hB3 := hB3.ext hx16
            replace hB4 := hB4.ext hx16
            replace hB5 := hB5.ext hx16
            replace hB6 := hB6.ext hx16
            replace hB7 := hB7.ext hx16
            replace hB8 := hB8.ext hx16
            replace hE := hE.ext hx16
            replace hEs := hEs.ext hx16
            replace hB10 : Blk _ b10 106 #[.int .i64 ((0 : Nat) : Int), .int .i64 ((0 : Nat) : Int), .int .i64 ((0 : Nat) : Int), .int .i64 ((0 : Nat) : Int), .int .i64 ((0 : Nat) : Int), .slice none 0 0] := hB10
            refine G.l rfl rfl (.inr rfl) (Nat.le_of_ble_eq_true rfl) ?_
            intro w17 hx17
            replace hD := hD.ext hx17
            replace hL1 := hL1.ext hx17
            replace hB2 := hB2.ext hx17
            replace hB3 := hB3.ext hx17
            replace hB4 := hB4.ext hx17
            replace hB5 := hB5.ext hx17
            replace hB6 := hB6.ext hx17
            replace hB7 := hB7.ext hx17
            replace hB8 := hB8.ext hx17
            replace hB10 := hB10.ext hx17
            replace hE := hE.ext hx17
            replace hEs := hEs.ext hx17
            refine R.storeA t106 hB10 rfl rfl rfl rfl (ones6 rfl rfl rfl rfl rfl rfl) (fun _ h => G.S1_new (fun _ _ h => h.1) hn010 hk10 h) ?_
            intro w18 hU18 hs18 hN18
            replace hD := hD.upT hU18 hB10 (by decide)
            replace hL1 := hL1.upT hU18 hB10 (by decide)
            replace hB2 := hB2.upT hU18 hB10 (by decide)
            replace hB3 := hB3.up hU18 (fun h => ne3_10 h)
            replace hB4 := hB4.up hU18 (fun h => ne4_10 h)
            replace hB5 := hB5.upT hU18 hB10 (by decide)
            replace hB6 := hB6.upT hU18 hB10 (by decide)
            replace hB7 := hB7.upT hU18 hB10 (by decide)
            replace hB8 := hB8.upT hU18 hB10 (by decide)
            replace hE := hE.own hU18 hb10
            replace hEs := hEs.trans hU18 (fun c hc h => by have h1 : c = b10 := h; rw [hh13] at hc; omega)
            replace hB10 : Blk _ b10 106 #[.int .i64 ((0 : Nat) : Int), .int .i64 ((0 : Nat) : Int), .int .i64 ((0 : Nat) : Int), .int .i64 ((0 : Nat) : Int), .int .i64 ((0 : Nat) : Int), .slice none 0 0] := hN18
            clear hN18
            refine R.nil ⟨hU18.size, ?_⟩
            intro K17 hK17 hN17
            replace hk10 := hK17 _ hk10
            refine G.q rfl (Nat.le_of_ble_eq_true rfl) ?_
            refine R.assign ?_
            refine R.nil ?_
            refine G.nil ?_
            refine E.seq ?_
            refine E.forgetM [(4, .pointer (some ⟨b4, 0, none⟩)), (5, .pointer (some ⟨b5, 0, none⟩)), (10, .pointer (some ⟨b10, 0, none⟩)), (11, .bool (false))] ⟨rfl, rfl, rfl, rfl, trivial⟩ (fun e he => ?_)
            clear he
            refine E.regionP rfl ?_
            refine R.move ?_
            refine R.nil ?_
            refine E.condF rfl ?_
            refine E.skip ?_
            refine blk_n (roundQ_n hL1 (fun w7 hU7 hL7 => ?_))
            exact ⟨true, rfl, fun _ => ⟨by rw [loop_back hrs hrp] at hL7; exact hL7, hE.trans hU7 (fun x _ h => .inr (.inr h)), hB4.up hU7 (fun e => hL1.neB hB4 (by simp) e.symm), hB5.up hU7 (fun e => hL1.neB hB5 (by simp) e.symm), snoc_none hz (bAt_miss hq hk56)⟩, nofun⟩
          · rw [hk56] at hT56
            obtain ⟨u56, rfl, hS56, hF56⟩ := hT56
            replace hF56 := hF56.mono hE0.size
            refine G.q rfl (Nat.le_of_ble_eq_true rfl) ?_
            refine R.move ?_
            refine R.nil ?_
            refine G.q rfl (Nat.le_of_ble_eq_true rfl) ?_
            refine R.extract rfl rfl ?_
            refine R.nil ?_
            refine G.q rfl (Nat.le_of_ble_eq_true rfl) ?_
            refine R.extract rfl rfl ?_
            refine R.nil ?_
            refine G.alloc t106 ?_
            intro w19 b10 K19 hx19 hb10 hn10 hK19 hk10 hB10
            have ne3_10 : b3 ≠ b10 := by have h1 := hB3s.lt; rw [hh13] at h1; omega
            have ne4_10 : b4 ≠ b10 := by have h1 := hB4s.lt; rw [hh13] at h1; omega
            have hn010 := hb10
            replace hb10 := Nat.le_trans hW0 hb10
            replace hD := hD.ext hx19
            replace hL1 := hL1.ext hx19
            replace hS56 := hS56.ext hx19
            replace hB2 := hB2.ext hx19
            replace hB3 := hB3.ext hx19
            replace hB4 := hB4.ext hx19
            replace hB5 := hB5.ext hx19
            replace hB6 := hB6.ext hx19
            replace hB7 := hB7.ext hx19
            replace hB8 := hB8.ext hx19
            replace hE := hE.ext hx19
            replace hEs := hEs.ext hx19
            replace hB10 : Blk _ b10 106 #[.int .i64 ((0 : Nat) : Int), .int .i64 ((0 : Nat) : Int), .int .i64 ((0 : Nat) : Int), .int .i64 ((0 : Nat) : Int), .int .i64 ((0 : Nat) : Int), .slice none 0 0] := hB10
            refine G.l rfl rfl (.inr rfl) (Nat.le_of_ble_eq_true rfl) ?_
            intro w20 hx20
            replace hD := hD.ext hx20
            replace hL1 := hL1.ext hx20
            replace hS56 := hS56.ext hx20
            replace hB2 := hB2.ext hx20
            replace hB3 := hB3.ext hx20
            replace hB4 := hB4.ext hx20
            replace hB5 := hB5.ext hx20
            replace hB6 := hB6.ext hx20
            replace hB7 := hB7.ext hx20
            replace hB8 := hB8.ext hx20
            replace hB10 := hB10.ext hx20
            replace hE := hE.ext hx20
            replace hEs := hEs.ext hx20
            refine R.storeA t106 hB10 rfl rfl rfl rfl (ones6 rfl rfl rfl rfl rfl hS56.one) (fun _ h => G.S1_new (fun _ _ h => h.1) hn010 hk10 h) ?_
            intro w21 hU21 hs21 hN21
            replace hD := hD.upT hU21 hB10 (by decide)
            replace hL1 := hL1.upT hU21 hB10 (by decide)
            replace hS56 := hS56.upT hU21 hB10 (by decide)
            replace hB2 := hB2.upT hU21 hB10 (by decide)
            replace hB3 := hB3.up hU21 (fun h => ne3_10 h)
            replace hB4 := hB4.up hU21 (fun h => ne4_10 h)
            replace hB5 := hB5.upT hU21 hB10 (by decide)
            replace hB6 := hB6.upT hU21 hB10 (by decide)
            replace hB7 := hB7.upT hU21 hB10 (by decide)
            replace hB8 := hB8.upT hU21 hB10 (by decide)
            replace hE := hE.own hU21 hb10
            replace hEs := hEs.trans hU21 (fun c hc h => by have h1 : c = b10 := h; rw [hh13] at hc; omega)
            replace hB10 : Blk _ b10 106 #[.int .i64 ((g.total : Nat) : Int), .int .i64 ((g.number : Nat) : Int), .int .i64 ((g.life : Nat) : Int), .int .i64 ((g.first : Nat) : Int), .int .i64 (((((((a + d.n - 1) % d.n)) + d.n) - j) % d.n : Nat) : Int), u56] := hN21
            clear hN21
            refine R.nil ⟨hU21.size, ?_⟩
            intro K20 hK20 hN20
            replace hk10 := hK20 _ hk10
            refine G.q rfl (Nat.le_of_ble_eq_true rfl) ?_
            refine R.assign ?_
            refine R.nil ?_
            refine G.nil ?_
            refine E.seq ?_
            refine E.forgetM [(4, .pointer (some ⟨b4, 0, none⟩)), (5, .pointer (some ⟨b5, 0, none⟩)), (10, .pointer (some ⟨b10, 0, none⟩)), (11, .bool (true))] ⟨rfl, rfl, rfl, rfl, trivial⟩ (fun e he => ?_)
            clear he
            refine E.regionP rfl ?_
            refine R.move ?_
            refine R.nil ?_
            refine E.condT rfl ?_
            refine E.seq ?_
            refine E.regionP rfl ?_
            refine R.loadA t106 hB10 rfl rfl rfl trivial ?_
            refine R.storeA t106 hB4 rfl rfl rfl rfl (ones6 rfl rfl rfl rfl rfl hS56.one) nofun ?_
            intro w22 hU22 hs22 hN22
            replace hD := hD.upT hU22 hB4 (by decide)
            replace hL1 := hL1.upT hU22 hB4 (by decide)
            replace hS56 := hS56.upT hU22 hB4 (by decide)
            replace hB2 := hB2.upT hU22 hB4 (by decide)
            replace hB3 := hB3.up hU22 (fun h => ne3_4 h)
            replace hB5 := hB5.upT hU22 hB4 (by decide)
            replace hB6 := hB6.upT hU22 hB4 (by decide)
            replace hB7 := hB7.upT hU22 hB4 (by decide)
            replace hB8 := hB8.upT hU22 hB4 (by decide)
            replace hB10 := hB10.up hU22 (fun h => ne4_10 h.symm)
            replace hE := hE.trans hU22 (fun x _ h => .inl h)
            replace hB4 : Blk _ b4 106 #[.int .i64 ((g.total : Nat) : Int), .int .i64 ((g.number : Nat) : Int), .int .i64 ((g.life : Nat) : Int), .int .i64 ((g.first : Nat) : Int), .int .i64 (((((((a + d.n - 1) % d.n)) + d.n) - j) % d.n : Nat) : Int), u56] := hN22
            clear hN22
            refine R.store t4 hB5 rfl rfl (rfl) (by simp) nofun ?_
            intro w23 hU23 hs23 hN23
            replace hD := hD.upN hU23 hn_hD_5
            replace hL1 := hL1.upT hU23 hB5 (by decide)
            replace hS56 := hS56.upT hU23 hB5 (by decide)
            replace hB2 := hB2.upT hU23 hB5 (by decide)
            replace hB3 := hB3.upT hU23 hB5 (by decide)
            replace hB4 := hB4.upT hU23 hB5 (by decide)
            replace hB6 := hB6.upT hU23 hB5 (by decide)
            replace hB7 := hB7.upT hU23 hB5 (by decide)
            replace hB8 := hB8.upT hU23 hB5 (by decide)
            replace hB10 := hB10.upT hU23 hB5 (by decide)
            replace hE := hE.trans hU23 (fun x _ h => .inr (.inl h))
            replace hB5 : Blk _ b5 4 #[.bool (true)] := hN23
            clear hN23
            refine R.nil ?_
            refine E.ret ?_
            refine ⟨hL1, fun w7 hU7 hL7 => ⟨false, rfl, nofun, fun _ => ⟨hL7, hE.trans hU7 (fun x _ h => .inr (.inr h)), _, u56, before_some hi hz (bAt_hit hq (by omega) hk56), hB4.up hU7 (fun e => hL1.neB hB4 (by simp) e.symm), hS56.up hU7 (fun x e e1 => by have e2 : x = D + 1 := e1; subst e2; obtain ⟨c, hc⟩ := hS56.blk e; exact hL1.neB hc (by simp) rfl), hF56.mono hwl0, hB5.up hU7 (fun e => hL1.neB hB5 (by simp) e.symm)⟩⟩⟩
  have hMks : ∀ {w' w''}, Upd (fun x => x = b4 ∨ x = b5 ∨ x = D + 1) wl w' → Upd (one (D + 1)) w' w'' → Marks w w'' [D] := fun u u2 => ⟨by simp, fun x hx => by
    simp at hx; subst hx
    exact ⟨(hDo.up u (by rintro (e | e | e); (exact hDo.neB hB4o (by simp) e); (exact hDo.neB hB5o (by simp) e); omega)).up u2 (fun e => by have e1 : x = x + 1 := e; omega), hDw⟩⟩
  rintro _ w3 ⟨_, rfl, _, ⟨hL3, hU3, hB4, hB5, hz⟩ | ⟨hL3, hU3, x, u, hbx, hB4, hu, hfu, hB5⟩⟩
  rotate_left
  · refine ⟨_, rfl, _, hL3, by simp, fun w4 hU4 => ?_⟩
    have hMk := hMks hU3 hU4
    have hE4 := (hE.trans hU3 (fun x hxx hXx => by have := hge x hXx; omega)).trans hU4 (fun x hxx hXx => by have e : x = D + 1 := hXx; omega)
    show bodyM _ _ _ .ret _ _
    refine retMAB (ms := [D]) (w0 := w) t106 (hB4.up hU4 (fun e => hL3.neB hB4 (by simp) e.symm)) rfl t4 (hB5.up hU4 (fun e => hL3.neB hB5 (by simp) e.symm)) rfl rfl rfl (by show D :: e0.ms = [D]; rw [hms0]) hMk (fun w9 hU9 => ⟨_, rfl, hE4.trans hU9 (fun x hx hX => by simp at hX; omega), ?_⟩)
    unfold beforeL
    rw [hbx]
    refine ⟨u, rfl, ?_, hfu⟩
    have hu4 := hu.up hU4 (fun x e e1 => by have e2 : x = D + 1 := e1; subst e2; obtain ⟨c, hc⟩ := hu.blk e; exact hL3.neB hc (by simp) rfl)
    exact hu4.up hU9 (fun x e hX => by obtain ⟨c, hc⟩ := hu4.blk e; exact (hMk.2 x hX).1.neB hc (by simp) rfl)
  refine ⟨_, rfl, loopQ_n hL3 hrs hrp (fun w4 hU4 => ?_)⟩
  replace hB4 := hB4.up hU4 (fun e => hL3.neB hB4 (by simp) e.symm)
  replace hB5 := hB5.up hU4 (fun e => hL3.neB hB5 (by simp) e.symm)
  have hMk := hMks hU3 hU4
  replace hE := (hE.trans hU3 (fun x hxx hXx => by have := hge x hXx; omega)).trans hU4 (fun x hxx hXx => by have e : x = D + 1 := hXx; omega)
  clear hBc2 hBc3 hB4o hB5o hDo hLo hLr hD hB2 hB3 hB6 hB7
  refine E.forgetM [(4, .pointer (some ⟨b4, 0, none⟩)), (5, .pointer (some ⟨b5, 0, none⟩))] ⟨rfl, rfl, trivial⟩ (fun e1 he1 => ?_)
  have hms1 : e1.ms = [D] := by rw [he1]; show D :: e0.ms = [D]; rw [hms0]
  clear he1
  refine E.seq ?_
  refine E.regionP rfl ?_
  refine R.build (bld106_e ) rfl ?_
  refine R.storeA t106 hB4 rfl rfl rfl rfl (ones6 rfl rfl rfl rfl rfl rfl) nofun ?_
  intro w24 hU24 hs24 hN24
  replace hMk := hMk.upT hU24 hB4 (by decide)
  replace hB5 := hB5.upT hU24 hB4 (by decide)
  replace hE := hE.own hU24 hb4
  replace hB4 : Blk _ b4 106 #[.int .i64 ((0 : Nat) : Int), .int .i64 ((0 : Nat) : Int), .int .i64 ((0 : Nat) : Int), .int .i64 ((0 : Nat) : Int), .int .i64 ((0 : Nat) : Int), .slice none 0 0] := hN24
  clear hN24
  refine R.store t4 hB5 rfl rfl (rfl) (by simp) nofun ?_
  intro w25 hU25 hs25 hN25
  replace hMk := hMk.upT hU25 hB5 (by decide)
  replace hB4 := hB4.upT hU25 hB5 (by decide)
  replace hE := hE.own hU25 hb5
  replace hB5 : Blk _ b5 4 #[.bool (false)] := hN25
  clear hN25
  refine R.nil ?_
  refine E.ret ?_
  refine retMAB (ms := [D]) (w0 := w) t106 hB4 rfl t4 hB5 rfl rfl rfl hms1 hMk (fun w9 hU9 => ⟨_, rfl, hE.trans hU9 (fun x hx hX => by simp at hX; omega), ?_⟩)
  unfold beforeL
  rw [before_none hz]; rfl
end Go.Proofs.Ytlplogplicgfiaa
