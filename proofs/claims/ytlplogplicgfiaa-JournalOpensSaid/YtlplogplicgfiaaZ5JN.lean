import Derived.Test.YtlplogplicgfiaaZ5JM
namespace Go.Proofs.Ytlplogplicgfiaa
open Go Go.RowKit
theorem thn_x {nx : Env → World → Prop} {Q : Exit → Env → World → Prop} {i : Nat} {e : Env} {w : World} (h : Q (.exit i) e w) : E.thn nx Q (.exit i) e w := h
theorem blk_x {id : Nat} {Q : Exit → Env → World → Prop} {e : Env} {w : World} (h : Q .normal e w) : E.blk id Q (.exit id) e w := by simp only [E.blk, if_true]; exact h
theorem Marks.upT {w0 w w' : World} {ms : List Nat} {b : Nat} {ty : TypeId} {cs : Array Value} (h : Marks w0 w ms) (u : Upd (one b) w w') (hB : Blk w b ty cs) (_ : True) : Marks w0 w' ms := h.upB u hB
theorem Obj1.upT {w w' : World} {l b : Nat} {r : Loop} {ty : TypeId} {cs : Array Value} (h : Obj1 w l (.loop r)) (u : Upd (one b) w w') (hB : Blk w b ty cs) (_ : True) : Obj1 w' l (.loop r) := h.up u (h.neB hB (by simp))
theorem DM.upX {X : Nat → Prop} {w w' : World} {p : Nat} {vb vd : Value} {d : Dk} (h : DM w p vb vd d) (u : Upd X w w') (hX : ∀ x, X x → (∃ ty cs, Blk w x ty cs ∧ 25 ≠ ty ∧ 27 ≠ ty ∧ 4 ≠ ty) ∨ (∃ r, Obj1 w x (.loop r))) : DM w' p vb vd d := by
  refine h.up u (fun e => ?_) (fun b hb e => ?_) (fun b hb e => ?_)
  · rcases hX _ e with ⟨ty, cs, q, h1, _⟩ | ⟨r, q⟩
    · exact h.blk.ne q h1 rfl
    · exact q.neB h.blk (by simp) rfl
  · obtain ⟨cur, hc⟩ := h.bls.blk hb
    rcases hX _ e with ⟨ty, cs, q, _, h1, _⟩ | ⟨r, q⟩
    · exact hc.ne q h1 rfl
    · exact q.neB hc (by simp) rfl
  · obtain ⟨cur, hc⟩ := h.bds.blk hb
    rcases hX _ e with ⟨ty, cs, q, _, _, h1⟩ | ⟨r, q⟩
    · exact hc.ne q h1 rfl
    · exact q.neB hc (by simp) rfl
structure Rc where
  h : Hd
  at_ : Nat
  dat : List Nat
deriving DecidableEq
def Rc0 : Rc := ⟨⟨0, 0, 0, 0⟩, 0, []⟩
abbrev rcC (r : Rc) (u : Value) : Array Value := #[.int .i64 ((r.h.total : Nat) : Int), .int .i64 ((r.h.number : Nat) : Int), .int .i64 ((r.h.life : Nat) : Int), .int .i64 ((r.h.first : Nat) : Int), .int .i64 ((r.at_ : Nat) : Int), u]
def lstep (d : Dk) (pl : Nat) (s : Rc × Nat) : Option (Hd × Nat × List Nat) → Rc × Nat
  | none => s
  | some (h, k, _) => if k ≠ 0 ∨ h.number < s.1.h.number ∨ (h.number = s.1.h.number ∧ h.life ≤ s.1.h.life) then (s.1, max s.2 h.life)
    else match findL d pl h with
      | none => (s.1, max s.2 h.life)
      | some rec => (⟨h, pl, rec⟩, max s.2 h.life)
def lpl (d : Dk) (s : Rc × Nat) (pl : Nat) : Nat → Rc × Nat
  | 0 => s
  | i + 1 => lstep d pl (lpl d s pl i) (tk d ((pl + i * d.n : Nat) : Int))
def lastL (d : Dk) : Nat → Rc × Nat
  | 0 => (Rc0, 0)
  | p + 1 => lpl d (lastL d p) p 2
theorem lpl_none {d : Dk} {s : Rc × Nat} {pl i : Nat} (h : tk d ((pl + i * d.n : Nat) : Int) = none) : lpl d s pl (i + 1) = lpl d s pl i := by simp only [lpl, h, lstep]
theorem lpl_old {d : Dk} {s : Rc × Nat} {pl i : Nat} {g : Hd} {j : Nat} {dt : List Nat} (h : tk d ((pl + i * d.n : Nat) : Int) = some (g, j, dt)) (hc : j ≠ 0 ∨ g.number < (lpl d s pl i).1.h.number ∨ (g.number = (lpl d s pl i).1.h.number ∧ g.life ≤ (lpl d s pl i).1.h.life)) : lpl d s pl (i + 1) = ((lpl d s pl i).1, max (lpl d s pl i).2 g.life) := by simp only [lpl, h, lstep, if_pos hc]
theorem lpl_miss {d : Dk} {s : Rc × Nat} {pl i : Nat} {g : Hd} {j : Nat} {dt : List Nat} (h : tk d ((pl + i * d.n : Nat) : Int) = some (g, j, dt)) (hf : findL d pl g = none) : lpl d s pl (i + 1) = ((lpl d s pl i).1, max (lpl d s pl i).2 g.life) := by
  simp only [lpl, h, lstep, hf]; split <;> rfl
theorem lpl_hit {d : Dk} {s : Rc × Nat} {pl i : Nat} {g : Hd} {j : Nat} {dt rec : List Nat} (h : tk d ((pl + i * d.n : Nat) : Int) = some (g, j, dt)) (hc : ¬ (j ≠ 0 ∨ g.number < (lpl d s pl i).1.h.number ∨ (g.number = (lpl d s pl i).1.h.number ∧ g.life ≤ (lpl d s pl i).1.h.life))) (hf : findL d pl g = some rec) : lpl d s pl (i + 1) = (⟨g, pl, rec⟩, max (lpl d s pl i).2 g.life) := by simp only [lpl, h, lstep, if_neg hc, hf]
theorem tk_total {d : Dk} {i : Int} {g : Hd} {j : Nat} {dt : List Nat} (h : tk d i = some (g, j, dt)) : j < g.total ∧ g.total ≤ 84 ∧ 1 ≤ g.life ∧ 1 ≤ g.first ∧ g.first ≤ g.number ∧ dt.length ≤ 48 := by
  unfold tk takeL at h
  split at h
  · exact absurd h (by simp)
  · rename_i hb
    have hb2 : ¬ _ := fun h2 => hb (by unfold badB; exact decide_eq_true h2)
    split at h
    · exact absurd h (by simp)
    · have h2 := Option.some.inj h
      simp only [Prod.mk.injEq] at h2
      obtain ⟨rfl, rfl, rfl⟩ := h2
      simp only [headL, List.length_take, List.length_drop]
      omega
set_option maxHeartbeats 800000 in
theorem last_ (w : World) {b900 : Nat} {vb vd : Value} {d : Dk} (hD : DM w b900 vb vd d) :
    Calls Try.prog 57 #[.pointer (some ⟨b900, 0, none⟩)] w (Ret fun r w' => Ext w w' ∧ ∃ u, r = .tuple #[.agg (rcC (lastL d d.n).1 u), .int .i64 (((lastL d d.n).2 : Nat) : Int)] ∧ SU8s w' u (lastL d d.n).1.dat ∧ Fresh w u) := by
  have hnl := d.n_le
  refine calls_M (args := [.pointer (some ⟨b900, 0, none⟩)]) 63 Try.func57 rfl rfl (by simp) ?_
  have hE : Ext w w := Upd.refl w
  refine E.seq ?_
  refine E.regionP rfl ?_
  refine R.box rfl nofun ?_
  intro b1 w1 hb1 hx1 hB1
  replace hb1 := Nat.le_trans hE.size hb1
  replace hD := hD.ext hx1
  replace hE := hE.ext hx1
  replace hB1 : Blk _ b1 32 #[.pointer (some ⟨b900, 0, none⟩)] := hB1
  refine R.alloc t106 nofun ?_
  intro b2 w2 hb2 hx2 hB2
  replace hb2 := Nat.le_trans hE.size hb2
  replace hD := hD.ext hx2
  replace hB1 := hB1.ext hx2
  replace hE := hE.ext hx2
  replace hB2 : Blk _ b2 106 #[.int .i64 ((0 : Nat) : Int), .int .i64 ((0 : Nat) : Int), .int .i64 ((0 : Nat) : Int), .int .i64 ((0 : Nat) : Int), .int .i64 ((0 : Nat) : Int), .slice none 0 0] := hB2
  refine R.assign ?_
  refine R.nil ?_
  refine E.seq ?_
  refine E.regionP rfl ?_
  refine R.alloc t106 nofun ?_
  intro b4 w3 hb4 hx3 hB4
  have ne2_4 : b2 ≠ b4 := by have := hB2.lt; omega
  replace hb4 := Nat.le_trans hE.size hb4
  replace hD := hD.ext hx3
  replace hB1 := hB1.ext hx3
  replace hB2 := hB2.ext hx3
  replace hE := hE.ext hx3
  replace hB4 : Blk _ b4 106 #[.int .i64 ((0 : Nat) : Int), .int .i64 ((0 : Nat) : Int), .int .i64 ((0 : Nat) : Int), .int .i64 ((0 : Nat) : Int), .int .i64 ((0 : Nat) : Int), .slice none 0 0] := hB4
  refine R.nil ?_
  refine E.seq ?_
  refine E.regionP rfl ?_
  refine R.alloc t3 nofun ?_
  intro b5 w4 hb5 hx4 hB5
  replace hb5 := Nat.le_trans hE.size hb5
  replace hD := hD.ext hx4
  replace hB1 := hB1.ext hx4
  replace hB2 := hB2.ext hx4
  replace hB4 := hB4.ext hx4
  replace hE := hE.ext hx4
  replace hB5 : Blk _ b5 3 #[.int .i64 ((0 : Nat) : Int)] := hB5
  refine R.store t3 hB5 rfl rfl (rfl) (by simp) nofun ?_
  intro w5 hU5 hs5 hN5
  replace hD := hD.upT hU5 hB5 (by decide)
  replace hB1 := hB1.upT hU5 hB5 (by decide)
  replace hB2 := hB2.upT hU5 hB5 (by decide)
  replace hB4 := hB4.upT hU5 hB5 (by decide)
  replace hE := hE.own hU5 hb5
  replace hB5 : Blk _ b5 3 #[.int .i64 ((0 : Nat) : Int)] := hN5
  clear hN5
  refine R.nil ?_
  refine E.seq ?_
  refine E.seq ?_
  refine E.regionP rfl ?_
  refine R.loadB t32 hB1 rfl rfl rfl trivial ?_
  refine R.callE1 ent43 (places_ _ hD) rfl nofun ?_
  rintro v12 w6 hx6 rfl
  replace hD := hD.ext hx6
  replace hB1 := hB1.ext hx6
  replace hB2 := hB2.ext hx6
  replace hB4 := hB4.ext hx6
  replace hB5 := hB5.ext hx6
  replace hE := hE.ext hx6
  refine R.move ?_
  refine R.nil ?_
  refine E.block ?_
  refine E.loop (fun n e wr => ∃ (p : Nat) (u : Value), n = d.n - p ∧ p ≤ d.n ∧ Fresh w u ∧ DM wr b900 vb vd d ∧ SU8s wr u (lastL d p).1.dat ∧ Marks w wr e.ms ∧ Blk wr b1 32 #[.pointer (some ⟨b900, 0, none⟩)] ∧ Blk wr b2 106 #[.int .i64 ((0 : Nat) : Int), .int .i64 ((0 : Nat) : Int), .int .i64 ((0 : Nat) : Int), .int .i64 ((0 : Nat) : Int), .int .i64 ((0 : Nat) : Int), .slice none 0 0] ∧ Blk wr b4 106 #[.int .i64 (((lastL d p).1.h.total : Nat) : Int), .int .i64 (((lastL d p).1.h.number : Nat) : Int), .int .i64 (((lastL d p).1.h.life : Nat) : Int), .int .i64 (((lastL d p).1.h.first : Nat) : Int), .int .i64 (((lastL d p).1.at_ : Nat) : Int), u] ∧ Blk wr b5 3 #[.int .i64 (((lastL d p).2 : Nat) : Int)] ∧ Ext w wr ∧ Has e [(1, .pointer (some ⟨b1, 0, none⟩)), (2, .pointer (some ⟨b2, 0, none⟩)), (4, .pointer (some ⟨b4, 0, none⟩)), (5, .pointer (some ⟨b5, 0, none⟩)), (12, .int .i64 ((d.n : Nat) : Int)), (13, .int .i64 ((p : Nat) : Int))]) (d.n) ?_ ?_
  · exact ⟨0, .slice none 0 0, rfl, by omega, Fresh.nil _, hD, Sl.nil _ _ _, Marks.nil, hB1, hB2, hB4, hB5, hE, rfl, rfl, rfl, rfl, rfl, rfl, trivial⟩
  · rintro n e wr ⟨p, u, rfl, hp, hfu, hD, hu, hMk, hB1, hB2, hB4, hB5, hE, hH⟩
    obtain ⟨e, rfl⟩ := hH.ex
    clear hH
    replace hMk : Marks w wr e.ms := hMk
    refine E.seq ?_
    refine E.regionP rfl ?_
    refine R.lss (b := decide ((((p : Nat) : Int)) < (((d.n : Nat) : Int)))) rfl rfl rfl ?_
    refine R.nil ?_
    refine E.seq ?_
    refine E.cond (b := decide ((((p : Nat) : Int)) < (((d.n : Nat) : Int)))) rfl (fun hc14 => ?_) (fun hc14 => ?_)
    · replace hc14 := dT hc14
      refine E.skip ?_
      refine E.seq ?_
      refine E.block ?_
      refine E.seq ?_
      refine E.regionP rfl ?_
      refine R.move ?_
      refine R.alloc t3 nofun ?_
      intro b6 w7 hb6 hx7 hB6
      have ne5_6 : b5 ≠ b6 := by have := hB5.lt; omega
      replace hb6 := Nat.le_trans hE.size hb6
      replace hD := hD.ext hx7
      replace hu := hu.ext hx7
      replace hMk := hMk.ext hx7
      replace hB1 := hB1.ext hx7
      replace hB2 := hB2.ext hx7
      replace hB4 := hB4.ext hx7
      replace hB5 := hB5.ext hx7
      replace hE := hE.ext hx7
      replace hB6 : Blk _ b6 3 #[.int .i64 ((0 : Nat) : Int)] := hB6
      refine R.store t3 hB6 rfl rfl (rfl) (by simp) nofun ?_
      intro w8 hU8 hs8 hN8
      replace hD := hD.upT hU8 hB6 (by decide)
      replace hu := hu.upT hU8 hB6 (by decide)
      replace hMk := hMk.upT hU8 hB6 (by decide)
      replace hB1 := hB1.upT hU8 hB6 (by decide)
      replace hB2 := hB2.upT hU8 hB6 (by decide)
      replace hB4 := hB4.upT hU8 hB6 (by decide)
      replace hB5 := hB5.up hU8 (fun h => ne5_6 h)
      replace hE := hE.own hU8 hb6
      replace hB6 : Blk _ b6 3 #[.int .i64 ((p : Nat) : Int)] := hN8
      clear hN8
      refine R.nil ?_
      refine E.seq ?_
      refine E.regionP rfl ?_
      refine R.loadB t32 hB1 rfl rfl rfl trivial ?_
      refine R.loadB t3 hB6 rfl rfl rfl trivial ?_
      refine R.callE2 ent68 (twins_ _) rfl rfl nofun ?_
      rintro v18 w9 hx9 ⟨c2, c3, rfl, hc2, hc3, hBc3, hBc2⟩
      have hnc3 : b5 ≠ c3 := by have := hB5.lt; omega
      replace hD := hD.ext hx9
      replace hu := hu.ext hx9
      replace hMk := hMk.ext hx9
      replace hB1 := hB1.ext hx9
      replace hB2 := hB2.ext hx9
      replace hB4 := hB4.ext hx9
      replace hB5 := hB5.ext hx9
      replace hB6 := hB6.ext hx9
      replace hE := hE.ext hx9
      refine R.nil ?_
      refine E.block ?_
      refine E.forgetM [(1, .pointer (some ⟨b1, 0, none⟩)), (2, .pointer (some ⟨b2, 0, none⟩)), (4, .pointer (some ⟨b4, 0, none⟩)), (5, .pointer (some ⟨b5, 0, none⟩)), (6, .pointer (some ⟨b6, 0, none⟩)), (12, .int .i64 ((d.n : Nat) : Int)), (13, .int .i64 ((p : Nat) : Int)), (18, .func (.func 72) #[] #[.pointer (some ⟨c3, 0, none⟩), .pointer (some ⟨c2, 0, none⟩)])] ⟨rfl, rfl, rfl, rfl, rfl, rfl, rfl, rfl, trivial⟩ (fun e0 he0 => ?_)
      replace hMk := hMk.eq he0
      clear he0
      refine E.rangeF (gf := 72) (cap := #[.pointer (some ⟨c3, 0, none⟩), .pointer (some ⟨c2, 0, none⟩)]) rfl ent72 ?_
      intro wl r D hxl hDl hDo hLo hLr hrs hrp
      have hDw : w.heap.size ≤ D := Nat.le_trans hE.size hDl
      have hDm : D ∉ e0.ms := fun h => by have := (hMk.2 D h).1.lt; omega
      have hDm1 : D + 1 ∉ e0.ms := fun h => by have := (hMk.2 _ h).1.lt; omega
      replace hD := hD.ext hxl
      replace hu := hu.ext hxl
      replace hMk := hMk.ext hxl
      replace hBc2 := hBc2.ext hxl
      replace hBc3 := hBc3.ext hxl
      replace hB1 := hB1.ext hxl
      replace hB2 := hB2.ext hxl
      replace hB4 := hB4.ext hxl
      replace hB5 := hB5.ext hxl
      replace hB6 := hB6.ext hxl
      replace hE := hE.ext hxl
      have hwl0 := hE.size
      have hB4o := hB4
      have hB5o := hB5
      have hX : ∀ x, (fun x => x = b4 ∨ x = b5 ∨ x = D + 1) x → (∃ ty cs, Blk wl x ty cs ∧ 25 ≠ ty ∧ 27 ≠ ty ∧ 4 ≠ ty) ∨ (∃ r, Obj1 wl x (.loop r)) := by
        rintro x (rfl | rfl | rfl)
        · exact .inl ⟨_, _, hB4, by decide, by decide, by decide⟩
        · exact .inl ⟨_, _, hB5, by decide, by decide, by decide⟩
        · exact .inr ⟨_, hLo⟩
      have hN1 : ¬ (fun x => x = b4 ∨ x = b5 ∨ x = D + 1) b1 := fun e => e.elim (fun e => hB1.ne hB4 (by decide) e) (fun e => e.elim (fun e => hB1.ne hB5 (by decide) e) (fun e => hLo.neB hB1 (by simp) e.symm))
      have hN2 : ¬ (fun x => x = b4 ∨ x = b5 ∨ x = D + 1) b2 := fun e => e.elim (fun e => ne2_4 e) (fun e => e.elim (fun e => hB2.ne hB5 (by decide) e) (fun e => hLo.neB hB2 (by simp) e.symm))
      have hN6 : ¬ (fun x => x = b4 ∨ x = b5 ∨ x = D + 1) b6 := fun e => e.elim (fun e => hB6.ne hB4 (by decide) e) (fun e => e.elim (fun e => ne5_6 e.symm) (fun e => hLo.neB hB6 (by simp) e.symm))
      have hNc2 : ¬ (fun x => x = b4 ∨ x = b5 ∨ x = D + 1) c2 := fun e => e.elim (fun e => hBc2.ne hB4 (by decide) e) (fun e => e.elim (fun e => hBc2.ne hB5 (by decide) e) (fun e => hLo.neB hBc2 (by simp) e.symm))
      have hNc3 : ¬ (fun x => x = b4 ∨ x = b5 ∨ x = D + 1) c3 := fun e => e.elim (fun e => hBc3.ne hB4 (by decide) e) (fun e => e.elim (fun e => hnc3 e.symm) (fun e => hLo.neB hBc3 (by simp) e.symm))
      have hge : ∀ x, (fun x => x = b4 ∨ x = b5 ∨ x = D + 1) x → w.heap.size ≤ x := by rintro x (e | e | e) <;> omega
      refine (twins1 wl (l := D + 1) (b900 := b900) (b901 := c3) (b902 := c2) (pl := p) (d := d) (vb := vb) (vd := vd) (Inv := fun i wr => Obj1 wr (D + 1) (.loop r) ∧ Upd (fun x => x = b4 ∨ x = b5 ∨ x = D + 1) wl wr ∧ ∃ u, Blk wr b4 106 (rcC (lpl d (lastL d p) p i).1 u) ∧ SU8s wr u (lpl d (lastL d p) p i).1.dat ∧ Fresh w u ∧ Blk wr b5 3 #[.int .i64 (((lpl d (lastL d p) p i).2 : Nat) : Int)]) (Stop := fun _ => False) ?_ (by omega) ?_ ?_ ?_ ?_).mono ?_
      · exact ⟨hLo, Upd.refl _, u, hB4, hu, hfu, hB5⟩
      · rintro i wr ⟨q1, q2, u, q3, q4, q5, q6⟩
        exact ⟨hD.upX q2 hX, hBc3.up q2 hNc3, hBc2.up q2 hNc2⟩
      · rintro i wr w' ⟨q1, q2, u, q3, q4, q5, q6⟩ q
        exact ⟨q1.ext q, q2.ext q, u, q3.ext q, q4.ext q, q5, q6.ext q⟩
      · rintro i hi wr hq ⟨q1, q2, u, q3, q4, q5, q6⟩
        exact ⟨q1, q2, u, by rw [lpl_none hq]; exact q3, by rw [lpl_none hq]; exact q4, q5, by rw [lpl_none hq]; exact q6⟩
      · rintro i hi g j dt wr hq ⟨hL1, hE, u, hB4, hu, hfu, hB5⟩
        replace hD := hD.upX hE hX
        replace hB1 := hB1.up hE hN1
        replace hB6 := hB6.up hE hN6
        have ne4_9 := True.intro
        obtain ⟨hjt, ht84, _⟩ := tk_total hq
        refine yields2 hLr hL1 hrs (by decide) (by decide) ?_
        refine E.seq ?_
        refine E.regionP rfl ?_
        refine R.alloc t103 nofun ?_
        intro b7 w10 hb7 hx10 hB7
        replace hb7 := Nat.le_trans hE.size hb7
        replace hD := hD.ext hx10
        replace hL1 := hL1.ext hx10
        replace hu := hu.ext hx10
        replace hB1 := hB1.ext hx10
        replace hB4 := hB4.ext hx10
        replace hB5 := hB5.ext hx10
        replace hB6 := hB6.ext hx10
        replace hE := hE.ext hx10
        replace hB7 : Blk _ b7 103 #[.int .i64 ((0 : Nat) : Int), .int .i64 ((0 : Nat) : Int), .int .i64 ((0 : Nat) : Int), .int .i64 ((0 : Nat) : Int)] := hB7
        refine R.storeA t103 hB7 rfl rfl rfl rfl (ones4 rfl rfl rfl rfl) nofun ?_
        intro w11 hU11 hs11 hN11
        replace hD := hD.upT hU11 hB7 (by decide)
        replace hL1 := hL1.upT hU11 hB7 (by decide)
        replace hu := hu.upT hU11 hB7 (by decide)
        replace hB1 := hB1.upT hU11 hB7 (by decide)
        replace hB4 := hB4.upT hU11 hB7 (by decide)
        replace hB5 := hB5.upT hU11 hB7 (by decide)
        replace hB6 := hB6.upT hU11 hB7 (by decide)
        replace hE := hE.own hU11 hb7
        replace hB7 : Blk _ b7 103 #[.int .i64 ((g.total : Nat) : Int), .int .i64 ((g.number : Nat) : Int), .int .i64 ((g.life : Nat) : Int), .int .i64 ((g.first : Nat) : Int)] := hN11
        clear hN11
        refine R.nil ?_
        refine E.regionP rfl ?_
        refine R.assign ?_
        refine R.nil ?_
        refine beginQ_n hL1 (fun w2 hU2 hL2 => ?_)
        replace hD := hD.upX hU2 (fun x e => .inr ⟨r, by have e1 : x = D + 1 := e; rw [e1]; exact hL1⟩)
        replace hu := hu.up hU2 (fun x e e1 => by have e2 : x = D + 1 := e1; subst e2; obtain ⟨c, hc⟩ := hu.blk e; exact hL1.neB hc (by simp) rfl)
        replace hB1 := hB1.up hU2 (fun e => hL1.neB hB1 (by simp) e.symm)
        replace hB4 := hB4.up hU2 (fun e => hL1.neB hB4 (by simp) e.symm)
        replace hB5 := hB5.up hU2 (fun e => hL1.neB hB5 (by simp) e.symm)
        replace hB6 := hB6.up hU2 (fun e => hL1.neB hB6 (by simp) e.symm)
        replace hB7 := hB7.up hU2 (fun e => hL1.neB hB7 (by simp) e.symm)
        replace hE := hE.trans hU2 (fun x _ h => .inr (.inr h))
        clear hL1
        have hL1 := hL2
        refine E.block ?_
        refine E.seq ?_
        refine E.regionP rfl ?_
        refine R.loadB t3 hB5 rfl rfl rfl trivial ?_
        refine R.fld fa103_2 rfl ?_
        refine R.loadB t3 hB7 rfl rfl rfl trivial ?_
        refine R.maxN (m := ((lpl d (lastL d p) p i).2)) (n := g.life) rfl rfl ?_
        refine R.store t3 hB5 rfl rfl (rfl) (by simp) nofun ?_
        intro w12 hU12 hs12 hN12
        replace hD := hD.upT hU12 hB5 (by decide)
        replace hL1 := hL1.upT hU12 hB5 (by decide)
        replace hu := hu.upT hU12 hB5 (by decide)
        replace hB1 := hB1.upT hU12 hB5 (by decide)
        replace hB4 := hB4.upT hU12 hB5 (by decide)
        replace hB6 := hB6.up hU12 (fun h => ne5_6 h.symm)
        replace hB7 := hB7.upT hU12 hB5 (by decide)
        replace hE := hE.trans hU12 (fun x _ h => .inr (.inl h))
        replace hB5 : Blk _ b5 3 #[.int .i64 ((max ((lpl d (lastL d p) p i).2) g.life : Nat) : Int)] := hN12
        clear hN12
        refine R.nil ?_
        refine E.seq ?_
        refine E.seq ?_
        refine E.regionP rfl ?_
        refine R.move ?_
        refine R.neq (b := !decide ((((j : Nat) : Int)) = (((0 : Nat) : Int)))) rfl rfl rfl ?_
        refine R.move ?_
        have hg27 := Bool.eq_false_or_eq_true (!decide ((((j : Nat) : Int)) = (((0 : Nat) : Int))))
        rcases hg27 with hg27 | hg27
        · have hg27q := hg27
          replace hg27 := nT hg27
          refine R.gF rfl (congrArg Value.bool hg27q) rfl ?_
          refine R.gF rfl (congrArg Value.bool hg27q) rfl ?_
          refine R.gF rfl (congrArg Value.bool hg27q) rfl ?_
          refine R.gF rfl (congrArg Value.bool hg27q) rfl ?_
          refine R.gF rfl (congrArg Value.bool hg27q) rfl ?_
          refine R.gF rfl (congrArg Value.bool hg27q) rfl ?_
          refine R.pickT (congrArg Value.bool hg27q) ?_
          refine R.move ?_
          refine R.gF rfl rfl rfl ?_
          refine R.gF rfl rfl rfl ?_
          refine R.gF rfl rfl rfl ?_
          refine R.gF rfl rfl rfl ?_
          refine R.gF rfl rfl rfl ?_
          refine R.gF rfl rfl rfl ?_
          refine R.gF rfl rfl rfl ?_
          refine R.gU rfl rfl ?_
          refine R.gU rfl rfl ?_
          refine R.gU rfl rfl ?_
          refine R.gU rfl rfl ?_
          refine R.gU rfl rfl ?_
          refine R.gU rfl rfl ?_
          refine R.gF rfl rfl rfl ?_
          refine R.pickT rfl ?_
          refine R.nil ?_
          refine E.condT rfl ?_
          refine E.exit ?_
          refine thn_x (blk_x (roundQ_n hL1 (fun w7 hU7 hL7 => ?_)))
          refine ⟨true, rfl, fun _ => ⟨by rw [loop_back hrs hrp] at hL7; exact hL7, hE.trans hU7 (fun x _ h => .inr (.inr h)), u, ?_, ?_, hfu, ?_⟩, nofun⟩
          · rw [lpl_old hq (by omega)]; exact hB4.up hU7 (fun e => hL1.neB hB4 (by simp) e.symm)
          · rw [lpl_old hq (by omega)]; exact hu.up hU7 (fun x e e1 => by have e2 : x = D + 1 := e1; subst e2; obtain ⟨c, hc⟩ := hu.blk e; exact hL1.neB hc (by simp) rfl)
          · rw [lpl_old hq (by omega)]; exact hB5.up hU7 (fun e => hL1.neB hB5 (by simp) e.symm)
        · have hg27q := hg27
          replace hg27 := nF hg27
          refine R.gT rfl (congrArg Value.bool hg27q) ?_
          refine R.fld fa103_1 rfl ?_
          refine R.gT rfl (congrArg Value.bool hg27q) ?_
          refine R.loadB t3 hB7 rfl rfl rfl trivial ?_
          refine R.gT rfl (congrArg Value.bool hg27q) ?_
          refine R.fld fa106_0 rfl ?_
          refine R.gT rfl (congrArg Value.bool hg27q) ?_
          refine R.fld fa103_1 rfl ?_
          refine R.gT rfl (congrArg Value.bool hg27q) ?_
          refine R.loadB t3 hB4 rfl rfl rfl trivial ?_
          refine R.gT rfl (congrArg Value.bool hg27q) ?_
          refine R.lss (b := decide ((((g.number : Nat) : Int)) < ((((lpl d (lastL d p) p i).1.h.number : Nat) : Int)))) rfl rfl rfl ?_
          refine R.pickF (congrArg Value.bool hg27q) ?_
          refine R.move ?_
          have hg35 := Bool.eq_false_or_eq_true (decide ((((g.number : Nat) : Int)) < ((((lpl d (lastL d p) p i).1.h.number : Nat) : Int))))
          rcases hg35 with hg35 | hg35
          · have hg35q := hg35
            replace hg35 := dT hg35
            refine R.gF rfl (congrArg Value.bool hg35q) rfl ?_
            refine R.gF rfl (congrArg Value.bool hg35q) rfl ?_
            refine R.gF rfl (congrArg Value.bool hg35q) rfl ?_
            refine R.gF rfl (congrArg Value.bool hg35q) rfl ?_
            refine R.gF rfl (congrArg Value.bool hg35q) rfl ?_
            refine R.gF rfl (congrArg Value.bool hg35q) rfl ?_
            refine R.gF rfl (congrArg Value.bool hg35q) rfl ?_
            refine R.gU rfl rfl ?_
            refine R.gU rfl rfl ?_
            refine R.gU rfl rfl ?_
            refine R.gU rfl rfl ?_
            refine R.gU rfl rfl ?_
            refine R.gU rfl rfl ?_
            refine R.gF rfl (congrArg Value.bool hg35q) rfl ?_
            refine R.pickT (congrArg Value.bool hg35q) ?_
            refine R.nil ?_
            refine E.condT rfl ?_
            refine E.exit ?_
            refine thn_x (blk_x (roundQ_n hL1 (fun w7 hU7 hL7 => ?_)))
            refine ⟨true, rfl, fun _ => ⟨by rw [loop_back hrs hrp] at hL7; exact hL7, hE.trans hU7 (fun x _ h => .inr (.inr h)), u, ?_, ?_, hfu, ?_⟩, nofun⟩
            · rw [lpl_old hq (by omega)]; exact hB4.up hU7 (fun e => hL1.neB hB4 (by simp) e.symm)
            · rw [lpl_old hq (by omega)]; exact hu.up hU7 (fun x e e1 => by have e2 : x = D + 1 := e1; subst e2; obtain ⟨c, hc⟩ := hu.blk e; exact hL1.neB hc (by simp) rfl)
            · rw [lpl_old hq (by omega)]; exact hB5.up hU7 (fun e => hL1.neB hB5 (by simp) e.symm)
          · have hg35q := hg35
            replace hg35 := dF hg35
            refine R.gT rfl (congrArg Value.bool hg35q) ?_
            refine R.fld fa103_1 rfl ?_
            refine R.gT rfl (congrArg Value.bool hg35q) ?_
            refine R.loadB t3 hB7 rfl rfl rfl trivial ?_
            refine R.gT rfl (congrArg Value.bool hg35q) ?_
            refine R.fld fa106_0 rfl ?_
            refine R.gT rfl (congrArg Value.bool hg35q) ?_
            refine R.fld fa103_1 rfl ?_
            refine R.gT rfl (congrArg Value.bool hg35q) ?_
            refine R.loadB t3 hB4 rfl rfl rfl trivial ?_
            refine R.gT rfl (congrArg Value.bool hg35q) ?_
            refine R.eql (b := decide ((((g.number : Nat) : Int)) = ((((lpl d (lastL d p) p i).1.h.number : Nat) : Int)))) rfl rfl rfl ?_
            refine R.gT rfl (congrArg Value.bool hg35q) ?_
            refine R.move ?_
            have hg42 := Bool.eq_false_or_eq_true (decide ((((g.number : Nat) : Int)) = ((((lpl d (lastL d p) p i).1.h.number : Nat) : Int))))
            rcases hg42 with hg42 | hg42
            · have hg42q := hg42
              replace hg42 := dT hg42
              refine R.gT rfl (congrArg Value.bool hg42q) ?_
              refine R.fld fa103_2 rfl ?_
              refine R.gT rfl (congrArg Value.bool hg42q) ?_
              refine R.loadB t3 hB7 rfl rfl rfl trivial ?_
              refine R.gT rfl (congrArg Value.bool hg42q) ?_
              refine R.fld fa106_0 rfl ?_
              refine R.gT rfl (congrArg Value.bool hg42q) ?_
              refine R.fld fa103_2 rfl ?_
              refine R.gT rfl (congrArg Value.bool hg42q) ?_
              refine R.loadB t3 hB4 rfl rfl rfl trivial ?_
              refine R.gT rfl (congrArg Value.bool hg42q) ?_
              refine R.leq (b := decide ((((g.life : Nat) : Int)) ≤ ((((lpl d (lastL d p) p i).1.h.life : Nat) : Int)))) rfl rfl rfl ?_
              refine R.gT rfl (congrArg Value.bool hg35q) ?_
              refine R.pickT (congrArg Value.bool hg42q) ?_
              refine R.pickF (congrArg Value.bool hg35q) ?_
              refine R.nil ?_
              refine E.cond (b := decide ((((g.life : Nat) : Int)) ≤ ((((lpl d (lastL d p) p i).1.h.life : Nat) : Int)))) rfl (fun hc50 => ?_) (fun hc50 => ?_)
              · replace hc50 := dT hc50
                refine E.exit ?_
                refine thn_x (blk_x (roundQ_n hL1 (fun w7 hU7 hL7 => ?_)))
                refine ⟨true, rfl, fun _ => ⟨by rw [loop_back hrs hrp] at hL7; exact hL7, hE.trans hU7 (fun x _ h => .inr (.inr h)), u, ?_, ?_, hfu, ?_⟩, nofun⟩
                · rw [lpl_old hq (by omega)]; exact hB4.up hU7 (fun e => hL1.neB hB4 (by simp) e.symm)
                · rw [lpl_old hq (by omega)]; exact hu.up hU7 (fun x e e1 => by have e2 : x = D + 1 := e1; subst e2; obtain ⟨c, hc⟩ := hu.blk e; exact hL1.neB hc (by simp) rfl)
                · rw [lpl_old hq (by omega)]; exact hB5.up hU7 (fun e => hL1.neB hB5 (by simp) e.symm)
              · replace hc50 := dF hc50
                refine E.skip ?_
                refine E.seq ?_
                refine E.forgetM [(1, .pointer (some ⟨b1, 0, none⟩)), (4, .pointer (some ⟨b4, 0, none⟩)), (6, .pointer (some ⟨b6, 0, none⟩)), (7, .pointer (some ⟨b7, 0, none⟩))] ⟨rfl, rfl, rfl, rfl, trivial⟩ (fun e he => ?_)
                replace hMk := hMk.eq he
                clear he
                refine E.regionP rfl ?_
                refine R.loadB t32 hB1 rfl rfl rfl trivial ?_
                refine R.loadB t3 hB6 rfl rfl rfl trivial ?_
                refine R.loadA t103 hB7 rfl rfl rfl trivial ?_
                refine R.callE3 ent69 (find_ _ hD (a := p) (h := g) (by omega) (by omega) (by omega) ht84) rfl rfl rfl nofun ?_
                rintro v55 w13 hx13 hT55
                have hE0 := hE
                replace hD := hD.ext hx13
                replace hL1 := hL1.ext hx13
                replace hu := hu.ext hx13
                replace hB1 := hB1.ext hx13
                replace hB4 := hB4.ext hx13
                replace hB5 := hB5.ext hx13
                replace hB6 := hB6.ext hx13
                replace hB7 := hB7.ext hx13
                replace hE := hE.ext hx13
                have hk55 := optCases (findL d p g)
                rcases hk55 with hk55 | ⟨rc55, hk55⟩
                · rw [hk55] at hT55
                  replace hT55 : _ = Value.tuple _ := hT55
                  subst hT55
                  refine R.move ?_
                  refine R.extract rfl rfl ?_
                  refine R.extract rfl rfl ?_
                  refine R.alloc t106 nofun ?_
                  intro b9 w14 hb9 hx14 hB9
                  have ne4_9 : b4 ≠ b9 := by have := hB4.lt; omega
                  replace hb9 := Nat.le_trans hE.size hb9
                  replace hD := hD.ext hx14
                  replace hL1 := hL1.ext hx14
                  replace hu := hu.ext hx14
                  replace hB1 := hB1.ext hx14
                  replace hB4 := hB4.ext hx14
                  replace hB5 := hB5.ext hx14
                  replace hB6 := hB6.ext hx14
                  replace hB7 := hB7.ext hx14
                  replace hE := hE.ext hx14
                  replace hB9 : Blk _ b9 106 #[.int .i64 ((0 : Nat) : Int), .int .i64 ((0 : Nat) : Int), .int .i64 ((0 : Nat) : Int), .int .i64 ((0 : Nat) : Int), .int .i64 ((0 : Nat) : Int), .slice none 0 0] := hB9
                  refine R.storeA t106 hB9 rfl rfl rfl rfl (ones6 rfl rfl rfl rfl rfl rfl) nofun ?_
                  intro w15 hU15 hs15 hN15
                  replace hD := hD.upT hU15 hB9 (by decide)
                  replace hL1 := hL1.upT hU15 hB9 (by decide)
                  replace hu := hu.upT hU15 hB9 (by decide)
                  replace hB1 := hB1.upT hU15 hB9 (by decide)
                  replace hB4 := hB4.up hU15 (fun h => ne4_9 h)
                  replace hB5 := hB5.upT hU15 hB9 (by decide)
                  replace hB6 := hB6.upT hU15 hB9 (by decide)
                  replace hB7 := hB7.upT hU15 hB9 (by decide)
                  replace hE := hE.own hU15 hb9
                  replace hB9 : Blk _ b9 106 #[.int .i64 ((0 : Nat) : Int), .int .i64 ((0 : Nat) : Int), .int .i64 ((0 : Nat) : Int), .int .i64 ((0 : Nat) : Int), .int .i64 ((0 : Nat) : Int), .slice none 0 0] := hN15
                  clear hN15
                  refine R.assign ?_
                  refine R.nil ?_
                  refine E.seq ?_
                  refine E.regionP rfl ?_
                  refine R.move ?_
                  refine R.nil ?_
                  refine E.condF rfl ?_
                  refine E.skip ?_
                  refine blk_n (roundQ_n hL1 (fun w7 hU7 hL7 => ?_))
                  refine ⟨true, rfl, fun _ => ⟨by rw [loop_back hrs hrp] at hL7; exact hL7, hE.trans hU7 (fun x _ h => .inr (.inr h)), u, ?_, ?_, hfu, ?_⟩, nofun⟩
                  · rw [lpl_miss hq hk55]; exact hB4.up hU7 (fun e => hL1.neB hB4 (by simp) e.symm)
                  · rw [lpl_miss hq hk55]; exact hu.up hU7 (fun x e e1 => by have e2 : x = D + 1 := e1; subst e2; obtain ⟨c, hc⟩ := hu.blk e; exact hL1.neB hc (by simp) rfl)
                  · rw [lpl_miss hq hk55]; exact hB5.up hU7 (fun e => hL1.neB hB5 (by simp) e.symm)
                · rw [hk55] at hT55
                  obtain ⟨u55, rfl, hS55, hF55⟩ := hT55
                  replace hF55 := hF55.mono hE0.size
                  refine R.move ?_
                  refine R.extract rfl rfl ?_
                  refine R.extract rfl rfl ?_
                  refine R.alloc t106 nofun ?_
                  intro b9 w16 hb9 hx16 hB9
                  have ne4_9 : b4 ≠ b9 := by have := hB4.lt; omega
                  replace hb9 := Nat.le_trans hE.size hb9
                  replace hD := hD.ext hx16
                  replace hL1 := hL1.ext hx16
                  replace hu := hu.ext hx16
                  replace hS55 := hS55.ext hx16
                  replace hB1 := hB1.ext hx16
                  replace hB4 := hB4.ext hx16
                  replace hB5 := hB5.ext hx16
                  replace hB6 := hB6.ext hx16
                  replace hB7 := hB7.ext hx16
                  replace hE := hE.ext hx16
                  replace hB9 : Blk _ b9 106 #[.int .i64 ((0 : Nat) : Int), .int .i64 ((0 : Nat) : Int), .int .i64 ((0 : Nat) : Int), .int .i64 ((0 : Nat) : Int), .int .i64 ((0 : Nat) : Int), .slice none 0 0] := hB9
                  refine R.storeA t106 hB9 rfl rfl rfl rfl (ones6 rfl rfl rfl rfl rfl hS55.one) nofun ?_
                  intro w17 hU17 hs17 hN17
                  replace hD := hD.upT hU17 hB9 (by decide)
                  replace hL1 := hL1.upT hU17 hB9 (by decide)
                  replace hu := hu.upT hU17 hB9 (by decide)
                  replace hS55 := hS55.upT hU17 hB9 (by decide)
                  replace hB1 := hB1.upT hU17 hB9 (by decide)
                  replace hB4 := hB4.up hU17 (fun h => ne4_9 h)
                  replace hB5 := hB5.upT hU17 hB9 (by decide)
                  replace hB6 := hB6.upT hU17 hB9 (by decide)
                  replace hB7 := hB7.upT hU17 hB9 (by decide)
                  replace hE := hE.own hU17 hb9
                  replace hB9 : Blk _ b9 106 #[.int .i64 ((g.total : Nat) : Int), .int .i64 ((g.number : Nat) : Int), .int .i64 ((g.life : Nat) : Int), .int .i64 ((g.first : Nat) : Int), .int .i64 ((p : Nat) : Int), u55] := hN17
                  clear hN17
                  refine R.assign ?_
                  refine R.nil ?_
                  refine E.seq ?_
                  refine E.regionP rfl ?_
                  refine R.move ?_
                  refine R.nil ?_
                  refine E.condT rfl ?_
                  refine E.regionP rfl ?_
                  refine R.loadA t106 hB9 rfl rfl rfl trivial ?_
                  refine R.storeA t106 hB4 rfl rfl rfl rfl (ones6 rfl rfl rfl rfl rfl hS55.one) nofun ?_
                  intro w18 hU18 hs18 hN18
                  replace hD := hD.upT hU18 hB4 (by decide)
                  replace hL1 := hL1.upT hU18 hB4 (by decide)
                  replace hu := hu.upT hU18 hB4 (by decide)
                  replace hS55 := hS55.upT hU18 hB4 (by decide)
                  replace hB1 := hB1.upT hU18 hB4 (by decide)
                  replace hB5 := hB5.upT hU18 hB4 (by decide)
                  replace hB6 := hB6.upT hU18 hB4 (by decide)
                  replace hB7 := hB7.upT hU18 hB4 (by decide)
                  replace hB9 := hB9.up hU18 (fun h => ne4_9 h.symm)
                  replace hE := hE.trans hU18 (fun x _ h => .inl h)
                  replace hB4 : Blk _ b4 106 #[.int .i64 ((g.total : Nat) : Int), .int .i64 ((g.number : Nat) : Int), .int .i64 ((g.life : Nat) : Int), .int .i64 ((g.first : Nat) : Int), .int .i64 ((p : Nat) : Int), u55] := hN18
                  clear hN18
                  refine R.nil ?_
                  refine blk_n (roundQ_n hL1 (fun w7 hU7 hL7 => ?_))
                  refine ⟨true, rfl, fun _ => ⟨by rw [loop_back hrs hrp] at hL7; exact hL7, hE.trans hU7 (fun x _ h => .inr (.inr h)), u55, ?_, ?_, (hF55.mono hwl0), ?_⟩, nofun⟩
                  · rw [lpl_hit hq (by omega) hk55]; exact hB4.up hU7 (fun e => hL1.neB hB4 (by simp) e.symm)
                  · rw [lpl_hit hq (by omega) hk55]; exact hS55.up hU7 (fun x e e1 => by have e2 : x = D + 1 := e1; subst e2; obtain ⟨c, hc⟩ := hS55.blk e; exact hL1.neB hc (by simp) rfl)
                  · rw [lpl_hit hq (by omega) hk55]; exact hB5.up hU7 (fun e => hL1.neB hB5 (by simp) e.symm)
            · have hg42q := hg42
              replace hg42 := dF hg42
              refine R.gF rfl (congrArg Value.bool hg42q) rfl ?_
              refine R.gF rfl (congrArg Value.bool hg42q) rfl ?_
              refine R.gF rfl (congrArg Value.bool hg42q) rfl ?_
              refine R.gF rfl (congrArg Value.bool hg42q) rfl ?_
              refine R.gF rfl (congrArg Value.bool hg42q) rfl ?_
              refine R.gF rfl (congrArg Value.bool hg42q) rfl ?_
              refine R.gT rfl (congrArg Value.bool hg35q) ?_
              refine R.pickF (congrArg Value.bool hg42q) ?_
              refine R.pickF (congrArg Value.bool hg35q) ?_
              refine R.nil ?_
              refine E.condF rfl ?_
              refine E.skip ?_
              refine E.seq ?_
              refine E.forgetM [(1, .pointer (some ⟨b1, 0, none⟩)), (4, .pointer (some ⟨b4, 0, none⟩)), (6, .pointer (some ⟨b6, 0, none⟩)), (7, .pointer (some ⟨b7, 0, none⟩))] ⟨rfl, rfl, rfl, rfl, trivial⟩ (fun e he => ?_)
              replace hMk := hMk.eq he
              clear he
              refine E.regionP rfl ?_
              refine R.loadB t32 hB1 rfl rfl rfl trivial ?_
              refine R.loadB t3 hB6 rfl rfl rfl trivial ?_
              refine R.loadA t103 hB7 rfl rfl rfl trivial ?_
              refine R.callE3 ent69 (find_ _ hD (a := p) (h := g) (by omega) (by omega) (by omega) ht84) rfl rfl rfl nofun ?_
              rintro v55 w19 hx19 hT55
              have hE0 := hE
              replace hD := hD.ext hx19
              replace hL1 := hL1.ext hx19
              replace hu := hu.ext hx19
              replace hB1 := hB1.ext hx19
              replace hB4 := hB4.ext hx19
              replace hB5 := hB5.ext hx19
              replace hB6 := hB6.ext hx19
              replace hB7 := hB7.ext hx19
              replace hE := hE.ext hx19
              have hk55 := optCases (findL d p g)
              rcases hk55 with hk55 | ⟨rc55, hk55⟩
              · rw [hk55] at hT55
                replace hT55 : _ = Value.tuple _ := hT55
                subst hT55
                refine R.move ?_
                refine R.extract rfl rfl ?_
                refine R.extract rfl rfl ?_
                refine R.alloc t106 nofun ?_
                intro b9 w20 hb9 hx20 hB9
                have ne4_9 : b4 ≠ b9 := by have := hB4.lt; omega
                replace hb9 := Nat.le_trans hE.size hb9
                replace hD := hD.ext hx20
                replace hL1 := hL1.ext hx20
                replace hu := hu.ext hx20
                replace hB1 := hB1.ext hx20
                replace hB4 := hB4.ext hx20
                replace hB5 := hB5.ext hx20
                replace hB6 := hB6.ext hx20
                replace hB7 := hB7.ext hx20
                replace hE := hE.ext hx20
                replace hB9 : Blk _ b9 106 #[.int .i64 ((0 : Nat) : Int), .int .i64 ((0 : Nat) : Int), .int .i64 ((0 : Nat) : Int), .int .i64 ((0 : Nat) : Int), .int .i64 ((0 : Nat) : Int), .slice none 0 0] := hB9
                refine R.storeA t106 hB9 rfl rfl rfl rfl (ones6 rfl rfl rfl rfl rfl rfl) nofun ?_
                intro w21 hU21 hs21 hN21
                replace hD := hD.upT hU21 hB9 (by decide)
                replace hL1 := hL1.upT hU21 hB9 (by decide)
                replace hu := hu.upT hU21 hB9 (by decide)
                replace hB1 := hB1.upT hU21 hB9 (by decide)
                replace hB4 := hB4.up hU21 (fun h => ne4_9 h)
                replace hB5 := hB5.upT hU21 hB9 (by decide)
                replace hB6 := hB6.upT hU21 hB9 (by decide)
                replace hB7 := hB7.upT hU21 hB9 (by decide)
                replace hE := hE.own hU21 hb9
                replace hB9 : Blk _ b9 106 #[.int .i64 ((0 : Nat) : Int), .int .i64 ((0 : Nat) : Int), .int .i64 ((0 : Nat) : Int), .int .i64 ((0 : Nat) : Int), .int .i64 ((0 : Nat) : Int), .slice none 0 0] := hN21
                clear hN21
                refine R.assign ?_
                refine R.nil ?_
                refine E.seq ?_
                refine E.regionP rfl ?_
                refine R.move ?_
                refine R.nil ?_
                refine E.condF rfl ?_
                refine E.skip ?_
                refine blk_n (roundQ_n hL1 (fun w7 hU7 hL7 => ?_))
                refine ⟨true, rfl, fun _ => ⟨by rw [loop_back hrs hrp] at hL7; exact hL7, hE.trans hU7 (fun x _ h => .inr (.inr h)), u, ?_, ?_, hfu, ?_⟩, nofun⟩
                · rw [lpl_miss hq hk55]; exact hB4.up hU7 (fun e => hL1.neB hB4 (by simp) e.symm)
                · rw [lpl_miss hq hk55]; exact hu.up hU7 (fun x e e1 => by have e2 : x = D + 1 := e1; subst e2; obtain ⟨c, hc⟩ := hu.blk e; exact hL1.neB hc (by simp) rfl)
                · rw [lpl_miss hq hk55]; exact hB5.up hU7 (fun e => hL1.neB hB5 (by simp) e.symm)
              · rw [hk55] at hT55
                obtain ⟨u55, rfl, hS55, hF55⟩ := hT55
                replace hF55 := hF55.mono hE0.size
                refine R.move ?_
                refine R.extract rfl rfl ?_
                refine R.extract rfl rfl ?_
                refine R.alloc t106 nofun ?_
                intro b9 w22 hb9 hx22 hB9
                have ne4_9 : b4 ≠ b9 := by have := hB4.lt; omega
                replace hb9 := Nat.le_trans hE.size hb9
                replace hD := hD.ext hx22
                replace hL1 := hL1.ext hx22
                replace hu := hu.ext hx22
                replace hS55 := hS55.ext hx22
                replace hB1 := hB1.ext hx22
                replace hB4 := hB4.ext hx22
                replace hB5 := hB5.ext hx22
                replace hB6 := hB6.ext hx22
                replace hB7 := hB7.ext hx22
                replace hE := hE.ext hx22
                replace hB9 : Blk _ b9 106 #[.int .i64 ((0 : Nat) : Int), .int .i64 ((0 : Nat) : Int), .int .i64 ((0 : Nat) : Int), .int .i64 ((0 : Nat) : Int), .int .i64 ((0 : Nat) : Int), .slice none 0 0] := hB9
                refine R.storeA t106 hB9 rfl rfl rfl rfl (ones6 rfl rfl rfl rfl rfl hS55.one) nofun ?_
                intro w23 hU23 hs23 hN23
                replace hD := hD.upT hU23 hB9 (by decide)
                replace hL1 := hL1.upT hU23 hB9 (by decide)
                replace hu := hu.upT hU23 hB9 (by decide)
                replace hS55 := hS55.upT hU23 hB9 (by decide)
                replace hB1 := hB1.upT hU23 hB9 (by decide)
                replace hB4 := hB4.up hU23 (fun h => ne4_9 h)
                replace hB5 := hB5.upT hU23 hB9 (by decide)
                replace hB6 := hB6.upT hU23 hB9 (by decide)
                replace hB7 := hB7.upT hU23 hB9 (by decide)
                replace hE := hE.own hU23 hb9
                replace hB9 : Blk _ b9 106 #[.int .i64 ((g.total : Nat) : Int), .int .i64 ((g.number : Nat) : Int), .int .i64 ((g.life : Nat) : Int), .int .i64 ((g.first : Nat) : Int), .int .i64 ((p : Nat) : Int), u55] := hN23
                clear hN23
                refine R.assign ?_
                refine R.nil ?_
                refine E.seq ?_
                refine E.regionP rfl ?_
                refine R.move ?_
                refine R.nil ?_
                refine E.condT rfl ?_
                refine E.regionP rfl ?_
                refine R.loadA t106 hB9 rfl rfl rfl trivial ?_
                refine R.storeA t106 hB4 rfl rfl rfl rfl (ones6 rfl rfl rfl rfl rfl hS55.one) nofun ?_
                intro w24 hU24 hs24 hN24
                replace hD := hD.upT hU24 hB4 (by decide)
                replace hL1 := hL1.upT hU24 hB4 (by decide)
                replace hu := hu.upT hU24 hB4 (by decide)
                replace hS55 := hS55.upT hU24 hB4 (by decide)
                replace hB1 := hB1.upT hU24 hB4 (by decide)
                replace hB5 := hB5.upT hU24 hB4 (by decide)
                replace hB6 := hB6.upT hU24 hB4 (by decide)
                replace hB7 := hB7.upT hU24 hB4 (by decide)
                replace hB9 := hB9.up hU24 (fun h => ne4_9 h.symm)
                replace hE := hE.trans hU24 (fun x _ h => .inl h)
                replace hB4 : Blk _ b4 106 #[.int .i64 ((g.total : Nat) : Int), .int .i64 ((g.number : Nat) : Int), .int .i64 ((g.life : Nat) : Int), .int .i64 ((g.first : Nat) : Int), .int .i64 ((p : Nat) : Int), u55] := hN24
                clear hN24
                refine R.nil ?_
                refine blk_n (roundQ_n hL1 (fun w7 hU7 hL7 => ?_))
                refine ⟨true, rfl, fun _ => ⟨by rw [loop_back hrs hrp] at hL7; exact hL7, hE.trans hU7 (fun x _ h => .inr (.inr h)), u55, ?_, ?_, (hF55.mono hwl0), ?_⟩, nofun⟩
                · rw [lpl_hit hq (by omega) hk55]; exact hB4.up hU7 (fun e => hL1.neB hB4 (by simp) e.symm)
                · rw [lpl_hit hq (by omega) hk55]; exact hS55.up hU7 (fun x e e1 => by have e2 : x = D + 1 := e1; subst e2; obtain ⟨c, hc⟩ := hS55.blk e; exact hL1.neB hc (by simp) rfl)
                · rw [lpl_hit hq (by omega) hk55]; exact hB5.up hU7 (fun e => hL1.neB hB5 (by simp) e.symm)
      rintro _ w3 ⟨_, rfl, _, ⟨hL3, hU3, u1, hB4, hu, hfu, hB5⟩ | hI⟩
      rotate_left
      · exact hI.elim
      refine ⟨_, rfl, loopQ_n hL3 hrs hrp (fun w4 hU4 => ?_)⟩
      replace hB4 := hB4.up hU4 (fun e => hL3.neB hB4 (by simp) e.symm)
      replace hB5 := hB5.up hU4 (fun e => hL3.neB hB5 (by simp) e.symm)
      replace hu := hu.up hU4 (fun x e e1 => by have e2 : x = D + 1 := e1; subst e2; obtain ⟨c, hc⟩ := hu.blk e; exact hL3.neB hc (by simp) rfl)
      replace hU3 := hU3.trans hU4 (fun x _ h => .inr (.inr h))
      replace hMk : Marks w w4 (D :: e0.ms) := ⟨List.nodup_cons.2 ⟨hDm, hMk.1⟩, by
        intro x hxm
        rcases List.mem_cons.1 hxm with rfl | hxm
        · exact ⟨hDo.up hU3 (by rintro (e | e | e); (exact hDo.neB hB4o (by simp) e); (exact hDo.neB hB5o (by simp) e); omega), hDw⟩
        · have hO := (hMk.2 x hxm).1
          exact ⟨hO.up hU3 (by rintro (e | e | e); (exact hO.neB hB4o (by simp) e); (exact hO.neB hB5o (by simp) e); (exact hDm1 (e ▸ hxm))), (hMk.2 x hxm).2⟩⟩
      replace hE := hE.trans hU3 (fun x hxx hXx => by have := hge x hXx; omega)
      replace hD := hD.upX hU3 hX
      replace hB1 := hB1.up hU3 hN1
      replace hB2 := hB2.up hU3 hN2
      clear hBc2 hBc3 hB4o hB5o hDo hLo hLr
      refine E.forgetM [(1, .pointer (some ⟨b1, 0, none⟩)), (2, .pointer (some ⟨b2, 0, none⟩)), (4, .pointer (some ⟨b4, 0, none⟩)), (5, .pointer (some ⟨b5, 0, none⟩)), (12, .int .i64 ((d.n : Nat) : Int)), (13, .int .i64 ((p : Nat) : Int))] ⟨rfl, rfl, rfl, rfl, rfl, rfl, trivial⟩ (fun e1 he1 => ?_)
      replace hMk := hMk.eq he1
      clear he1
      refine E.regionP rfl ?_
      refine R.addN (m := p) (n := 1) rfl rfl (by omega) ?_
      refine R.move ?_
      refine R.nil ?_
      exact ⟨d.n - (p + 1), by omega, p + 1, u1, rfl, by omega, hfu, hD, hu, hMk, hB1, hB2, hB4, hB5, hE, rfl, rfl, rfl, rfl, rfl, rfl, trivial⟩
    · replace hc14 := dF hc14
      refine E.exit ?_
      refine E.seq ?_
      refine E.regionW (fun c x => x < wr.heap.size ∧ (c = false → x ≠ b2)) []  mixed rfl (by kernel_rfl) ?_
      intro w25 hx25 hh25
      replace hD := hD.ext hx25
      replace hu := hu.ext hx25
      replace hMk := hMk.ext hx25
      replace hB1 := hB1.ext hx25
      replace hB2 := hB2.ext hx25
      replace hB4 := hB4.ext hx25
      replace hB5 := hB5.ext hx25
      replace hE := hE.ext hx25
      have hEs : Ext w25 w25 := Upd.refl _
      have hS0 := hx25.size
      have hSB : ∀ b, b < w25.heap.size → b < wr.heap.size ∧ (true = false → (fun x => x ≠ b2) b) := fun b hb => ⟨by rw [hh25] at hb; exact hb, nofun⟩
      have hSA : ∀ b, b < w25.heap.size → (fun x => x ≠ b2) b → b < wr.heap.size ∧ (false = false → (fun x => x ≠ b2) b) := fun b hb h => ⟨by rw [hh25] at hb; exact hb, fun _ => h⟩
      have hDs := hD
      have hus := hu
      have hMks := hMk
      have hB1s := hB1
      have hB2s := hB2
      have hB4s := hB4
      have hB5s := hB5
      refine R.loadA t106 hB4 rfl rfl rfl (hSA b4 hB4s.lt ((fun h => ne2_4 h.symm))) ?_
      refine R.loadB t3 hB5 rfl rfl rfl (hSA b5 hB5s.lt (hB5s.ne hB2s (by decide))) ?_
      refine R.storeA t106 hB2 rfl rfl rfl rfl (ones6 rfl rfl rfl rfl rfl hu.one) (fun _ h => h.2 rfl rfl) ?_
      intro w26 hU26 hs26 hN26
      replace hD := hD.upT hU26 hB2 (by decide)
      replace hu := hu.upT hU26 hB2 (by decide)
      replace hMk := hMk.upT hU26 hB2 (by decide)
      replace hB1 := hB1.upT hU26 hB2 (by decide)
      replace hB4 := hB4.up hU26 (fun h => ne2_4 h.symm)
      replace hB5 := hB5.upT hU26 hB2 (by decide)
      replace hE := hE.own hU26 hb2
      replace hB2 : Blk _ b2 106 #[.int .i64 (((lastL d p).1.h.total : Nat) : Int), .int .i64 (((lastL d p).1.h.number : Nat) : Int), .int .i64 (((lastL d p).1.h.life : Nat) : Int), .int .i64 (((lastL d p).1.h.first : Nat) : Int), .int .i64 (((lastL d p).1.at_ : Nat) : Int), u] := hN26
      clear hN26
      refine R.assign ?_
      refine R.nil ?_
      refine E.ret ?_
      obtain rfl : p = d.n := by omega
      refine retMA1 t106 hB2 rfl rfl rfl rfl rfl hMk (fun w9 hU9 => ⟨_, rfl, hE.trans hU9 (fun x hx hX => by have := (hMk.2 x hX).2; omega), u, rfl, ?_, hfu⟩)
      exact hu.up hU9 (fun x e hX => by obtain ⟨c, hc⟩ := hu.blk e; exact (hMk.2 x hX).1.neB hc (by simp) rfl)
end Go.Proofs.Ytlplogplicgfiaa
