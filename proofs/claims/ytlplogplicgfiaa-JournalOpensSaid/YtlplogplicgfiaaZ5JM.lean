import Derived.Test.YtlplogplicgfiaaZ5JL
namespace Go.Proofs.Ytlplogplicgfiaa
open Go Go.RowKit
namespace R
variable {P : Program} {ops : Array Oper} {S : Bool → Nat → Prop} {dr : Bool} {B : List Nat} {F : Env → World → Prop} {rest : List Oper} {e : Env} {w : World}
variable {d : Tmp} {od : Option Tmp} {ty : TypeId} {pos : String} {aft : Array Edge}
theorem makeF2 {fn : Fn} {x y : Operand} {u v : Value} (hc : ev e x = u) (hd : ev e y = v)
    (h : wpR P ops S dr (kind B) F rest (upd e d (.func fn #[] #[u, v])) w) : wpR P ops S dr (kind B) F (⟨some d, .makeFunc fn #[] #[x, y], ty, pos, aft, none⟩ :: rest) e w := makeFunc (f := #[]) (c := #[u, v]) (by simp) (by simp [hc, hd]) h
theorem callY2 {l : Nat} {x x1 x2 : Operand} {v1 v2 : Value} {ats : Array TypeId} {Φ : Value → World → Prop} (hx : ev e x = .func (.yield l) #[] #[]) (h1 : ev e x1 = v1) (h2 : ev e x2 = v2) (hc : Yields P l #[v1, v2] w Φ)
    (h : ∀ v w', Φ v w' → (dr = true → AgreeOn (S false) w w') ∧ wpR P ops S dr (kind B) F rest (updo e od v) w') :
    wpR P ops S dr (kind B) F (⟨od, .call { callee := .value x, args := #[x1, x2], argTypes := ats }, ty, pos, aft, none⟩ :: rest) e w := callY hx (by simp [h1, h2]) hc h
end R
theorem retU {P : Program} {fn : Func} {R : Ending → World → Prop} {e : Env} {w : World} (hr : fn.results = #[]) (h : R (.returned (.tuple #[])) w) : bodyE P fn R .ret e w :=
  ⟨_, fun tmps _ => by rw [results_none hr], h⟩
def Marks (w0 w : World) (ms : List Nat) : Prop := ms.Nodup ∧ ∀ D ∈ ms, Obj1 w D (.deferred (some [])) ∧ w0.heap.size ≤ D
theorem Marks.nil {w0 w : World} : Marks w0 w [] := ⟨by simp, by simp⟩
theorem Marks.up {X : Nat → Prop} {w0 w w' : World} {ms : List Nat} (h : Marks w0 w ms) (u : Upd X w w') (hx : ∀ D ∈ ms, ¬ X D) : Marks w0 w' ms := ⟨h.1, fun D hD => ⟨(h.2 D hD).1.up u (hx D hD), (h.2 D hD).2⟩⟩
theorem Marks.eq {w0 w : World} {ms ms' : List Nat} (h : Marks w0 w ms) (e : ms' = ms) : Marks w0 w ms' := e ▸ h
theorem Marks.ext {w0 w w' : World} {ms : List Nat} (h : Marks w0 w ms) (u : Ext w w') : Marks w0 w' ms := h.up u fun _ _ => id
theorem Obj1.neB {w : World} {l b : Nat} {o : Obj} {ty : TypeId} {cs : Array Value} (h : Obj1 w l o) (hB : Blk w b ty cs) (ho : ∀ cs ty, o ≠ .cells cs ty (0, 0)) : l ≠ b := fun e => by
  subst e
  exact ho cs ty (Option.some.inj (h.symm.trans hB))
theorem Marks.upB {w0 w w' : World} {ms : List Nat} {b : Nat} {ty : TypeId} {cs : Array Value} (h : Marks w0 w ms) (u : Upd (one b) w w') (hB : Blk w b ty cs) : Marks w0 w' ms := h.up u fun D hD => (h.2 D hD).1.neB hB (by simp)
theorem E.forgetM {md : Mode} {P : Program} {N : Nat} {Q : Exit → Env → World → Prop} {e : Env} {w : World} {c : Code} (l : List (Nat × Value)) (h : Has e l) (k : ∀ e', e'.ms = e.ms → wpE md P N c Q (mk e' l) w) : wpE md P N c Q e w := by
  have e1 := h.mk
  rw [e1]
  exact k e rfl
theorem blk_n {id : Nat} {Q : Exit → Env → World → Prop} {e : Env} {w : World} (h : Q .normal e w) : E.blk id Q .normal e w := h
theorem roundQ_n {l : Nat} {r : Loop} {Φ : Value → World → Prop} {e : Env} {w : World} (h1 : Obj1 w l (.loop { r with state := .busy })) (h2 : ∀ w', Upd (one l) w w' → Obj1 w' l (.loop { r with state := .ready, pending := none }) → Φ (.bool true) w') : roundQ l r Φ .normal e w := ⟨h1, h2⟩
theorem beginQ_n {P : Program} {N l : Nat} {r : Loop} {body : Code} {Φ : Value → World → Prop} {e : Env} {w : World} (h1 : Obj1 w l (.loop r)) (h2 : ∀ w2, Upd (one l) w w2 → Obj1 w2 l (.loop { r with state := .busy }) → wpE ⟨some l, false⟩ P N body (roundQ l r Φ) e w2) : beginQ P N l r body Φ .normal e w := ⟨h1, h2⟩
theorem loop_back {r : Loop} (h1 : r.state = .ready) (h2 : r.pending = none) : { r with state := .ready, pending := none } = r := by
  cases r; simp_all
theorem yields2 {P : Program} {N l a b : Nat} {e : Env} {assign body : Code} {r : Loop} {u v : Value} {w : World} {Φ : Value → World → Prop} (hr : LRec N e #[a, b] assign body r) (hl : Obj1 w l (.loop r)) (hs : r.state = .ready) (ha : a < N) (hb : b < N)
    (h : wpE ⟨some l, false⟩ P N assign (beginQ P N l r body Φ) (upd (upd e a u) b v) w) : Yields P l #[u, v] w Φ := by
  have e1 : (#[a, b].zip #[u, v]).toList = [(a, u), (b, v)] := by simp
  refine yields_of hr hl hs rfl (fun p hp => ?_) ?_
  · rw [e1] at hp; simp at hp; rcases hp with rfl | rfl <;> assumption
  · rw [e1]; exact h
theorem loopQ_n {l D : Nat} {Q : Exit → Env → World → Prop} {e : Env} {w : World} {r : Loop} (h1 : Obj1 w l (.loop r)) (h2 : r.state = .ready) (h3 : r.pending = none) (h : ∀ w', Upd (one l) w w' → Q .normal ⟨e.val, D :: e.ms⟩ w') : loopQ l D Q e w :=
  ⟨r, h1, by rw [h2]; simp, fun w' u => by rw [h3]; exact h w' u⟩
theorem run_loadB {P : Program} {w : World} {t : TypeId} {by_ b : Nat} {z u : Value} {tb : TypeId} {cs : Array Value} (hk : Ty P t 1 by_ false z) (hb : Blk w b tb cs) (hu : cs[0]? = some u) : (loadVar t ⟨b, 0, none⟩).run P w = .ok u w := by
  have hc : w.cell? ⟨b, 0, none⟩ = some u := by rw [hb.cell]; exact hu
  exact R.run_loadVar1 hk hc
theorem retMA1 {P : Program} {fn : Func} {R : Ending → World → Prop} {e : Env} {w w0 : World} {t u : Tmp} {T : TypeId} {k by_ b : Nat} {z v2 : Value} {tb : TypeId} {cs : Array Value} {ms : List Nat} (hk : Ty P T k by_ true z) (hb : Blk w b tb cs) (hi : cs.size = k) (hr : fn.results = #[.cell t T, .tmp u]) (hv : e t = .pointer (some ⟨b, 0, none⟩)) (h2 : e u = v2) (hms : e.ms = ms) (hM : Marks w0 w ms) (h : ∀ w', Upd (fun x => x ∈ ms) w w' → R (.returned (.tuple #[.agg cs, v2])) w') : bodyM P fn R .ret e w := by
  obtain ⟨w', q1, q2⟩ := Takes.run (P := P) ms w hM.1 (fun D hD => (hM.2 D hD).1)
  have hb' : Blk w' b tb cs := hb.up q2 (fun hx => (hM.2 b hx).1.neB hb (by simp) rfl)
  exact ⟨w', _, by rw [hms]; exact q1, fun tmps ht => by
    simp only [Array.getD_eq_getD_getElem?] at ht
    simp [results, hr, ht, hv, h2, asAddr, run_loadA hk hb' hi], h w' q2⟩
theorem retMAB {P : Program} {fn : Func} {R : Ending → World → Prop} {e : Env} {w w0 : World} {t u : Tmp} {T T2 : TypeId} {k by_ by2 b b2 : Nat} {z z2 u2 : Value} {tb tb2 : TypeId} {cs : Array Value} {ms : List Nat} (hk : Ty P T k by_ true z) (hb : Blk w b tb cs) (hi : cs.size = k) (hk2 : Ty P T2 1 by2 false z2) (hb2 : Blk w b2 tb2 #[u2]) (hr : fn.results = #[.cell t T, .cell u T2]) (hv : e t = .pointer (some ⟨b, 0, none⟩)) (h2 : e u = .pointer (some ⟨b2, 0, none⟩)) (hms : e.ms = ms) (hM : Marks w0 w ms) (h : ∀ w', Upd (fun x => x ∈ ms) w w' → R (.returned (.tuple #[.agg cs, u2])) w') : bodyM P fn R .ret e w := by
  obtain ⟨w', q1, q2⟩ := Takes.run (P := P) ms w hM.1 (fun D hD => (hM.2 D hD).1)
  have hb' : Blk w' b tb cs := hb.up q2 (fun hx => (hM.2 b hx).1.neB hb (by simp) rfl)
  have hb2' : Blk w' b2 tb2 #[u2] := hb2.up q2 (fun hx => (hM.2 b2 hx).1.neB hb2 (by simp) rfl)
  exact ⟨w', _, by rw [hms]; exact q1, fun tmps ht => by
    simp only [Array.getD_eq_getD_getElem?] at ht
    simp [results, hr, ht, hv, h2, asAddr, run_loadA hk hb' hi, run_loadB hk2 hb2' (u := u2) rfl], h w' q2⟩
end Go.Proofs.Ytlplogplicgfiaa

namespace Go.Proofs.Ytlplogplicgfiaa
open Go Go.RowKit
theorem twins1 (w : World) {l b900 b901 b902 pl : Nat} {vb vd : Value} {d : Dk} {Inv : Nat → World → Prop} {Stop : World → Prop} (hI : Inv 0 w) (hpl : pl ≤ 1000000)
    (hO : ∀ i w, Inv i w → DM w b900 vb vd d ∧ Blk w b901 3 #[.int .i64 ((pl : Nat) : Int)] ∧ Blk w b902 32 #[.pointer (some ⟨b900, 0, none⟩)])
    (hX : ∀ i w w', Inv i w → Ext w w' → Inv i w')
    (hK : ∀ i, i < 2 → ∀ w, tk d ((pl + i * d.n : Nat) : Int) = none → Inv i w → Inv (i + 1) w)
    (hY : ∀ i, i < 2 → ∀ g j dt w, tk d ((pl + i * d.n : Nat) : Int) = some (g, j, dt) → Inv i w → Yields Try.prog l #[.agg (hdC g), .int .i64 ((j : Nat) : Int)] w (fun v w' => ∃ b, v = .bool b ∧ (b = true → Inv (i + 1) w') ∧ (b = false → Stop w'))) :
    Calls Try.prog 72 #[.func (.yield l) #[] #[], .pointer (some ⟨b901, 0, none⟩), .pointer (some ⟨b902, 0, none⟩)] w (Ret fun r w' => r = .tuple #[] ∧ (Inv 2 w' ∨ Stop w')) := by
  have hnl := d.n_le
  refine calls_E (args := [.func (.yield l) #[] #[], .pointer (some ⟨b901, 0, none⟩), .pointer (some ⟨b902, 0, none⟩)]) 43 Try.func72 rfl rfl (by simp) ?_
  have hE : Ext w w := Upd.refl w
  obtain ⟨hD, hB901, hB902⟩ := hO _ _ hI
  refine E.seq ?_
  refine E.regionW (fun c x => x < w.heap.size ∧ (c = false → True)) []  mixed rfl (by kernel_rfl) ?_
  intro w1 hx1 hh1
  replace hD := hD.ext hx1
  replace hB901 := hB901.ext hx1
  replace hB902 := hB902.ext hx1
  replace hE := hE.ext hx1
  have hEs : Ext w1 w1 := Upd.refl _
  have hS0 := hx1.size
  have hSB : ∀ b, b < w1.heap.size → b < w.heap.size ∧ (true = false → (fun x => True) b) := fun b hb => ⟨by rw [hh1] at hb; exact hb, nofun⟩
  have hSA : ∀ b, b < w1.heap.size → (fun x => True) b → b < w.heap.size ∧ (false = false → (fun x => True) b) := fun b hb h => ⟨by rw [hh1] at hb; exact hb, fun _ => h⟩
  have hSO : ∀ b, b < w.heap.size → b < w.heap.size ∧ (false = false → (fun x => True) b) := fun b hb => hSA b (Nat.lt_of_lt_of_le hb hE.size) (trivial)
  have hDs := hD
  have hB901s := hB901
  have hB902s := hB902
  refine R.loadB t3 hB901 rfl rfl rfl (hSA b901 hB901s.lt (trivial)) ?_
  refine R.loadB t3 hB901 rfl rfl rfl (hSA b901 hB901s.lt (trivial)) ?_
  refine R.loadB t32 hB902 rfl rfl rfl (hSA b902 hB902s.lt (trivial)) ?_
  refine R.callE1 ent43 (places_ _ hD) rfl (fun _ _ hb => Nat.lt_of_lt_of_le hb.1 (Nat.le_trans hS0 hEs.size)) ?_
  rintro v15 w2 hx2 rfl
  replace hD := hD.ext hx2
  replace hB901 := hB901.ext hx2
  replace hB902 := hB902.ext hx2
  replace hE := hE.ext hx2
  replace hEs := hEs.ext hx2
  refine R.addN (m := pl) (n := d.n) rfl rfl (by omega) ?_
  refine R.build bld133 rfl ?_
  refine R.move ?_
  refine R.nil ?_
  refine E.block ?_
  refine E.loop (fun n e wr => ∃ (i : Nat), n = 2 - i ∧ i ≤ 2 ∧ Inv i wr ∧ Has e [(0, .func (.yield l) #[] #[]), (2, .pointer (some ⟨b902, 0, none⟩)), (17, .agg #[.int .i64 ((pl : Nat) : Int), .int .i64 ((pl + d.n : Nat) : Int)]), (18, .int .i64 ((i : Nat) : Int))]) (2) ?_ ?_
  · exact ⟨0, rfl, by omega, hX _ _ _ hI hE, rfl, rfl, rfl, rfl, trivial⟩
  · rintro n e wr ⟨i, rfl, hi, hI, hH⟩
    obtain ⟨e, rfl⟩ := hH.ex
    clear hH
    obtain ⟨hD, hB901, hB902⟩ := hO _ _ hI
    have hE : Ext wr wr := Upd.refl wr
    refine E.seq ?_
    refine E.regionP rfl ?_
    refine R.lss (b := decide ((((i : Nat) : Int)) < (((2 : Nat) : Int)))) rfl rfl rfl ?_
    refine R.nil ?_
    refine E.seq ?_
    refine E.cond (b := decide ((((i : Nat) : Int)) < (((2 : Nat) : Int)))) rfl (fun hc19 => ?_) (fun hc19 => ?_)
    · replace hc19 := dT hc19
      have hi1 : i < 2 := by omega
      refine E.skip ?_
      refine E.seq ?_
      refine E.block ?_
      refine E.seq ?_
      refine E.regionP rfl ?_
      refine R.indexA (m := i) (u := .int .i64 ((pl + i * d.n : Nat) : Int)) Try.underlying133 t3 rfl rfl (by omega) (at2 (by omega)) rfl ?_
      refine R.assign ?_
      refine R.nil ?_
      refine E.seq ?_
      refine E.regionP rfl ?_
      refine R.loadB t32 hB902 rfl rfl rfl trivial ?_
      refine R.move ?_
      refine R.callE2 ent15 (read_ _ hD) rfl rfl nofun ?_
      rintro v24 w3 hx3 rfl
      replace hD := hD.ext hx3
      replace hB901 := hB901.ext hx3
      replace hB902 := hB902.ext hx3
      replace hE := hE.ext hx3
      refine R.move ?_
      refine R.extract rfl rfl ?_
      refine R.extract rfl rfl ?_
      refine R.alloc t27 nofun ?_
      intro b6 w4 hb6 hx4 hB6
      have hn_hD_6 := hD.new hb6
      replace hb6 := Nat.le_trans hE.size hb6
      replace hD := hD.ext hx4
      replace hB901 := hB901.ext hx4
      replace hB902 := hB902.ext hx4
      replace hE := hE.ext hx4
      replace hB6 : Blk _ b6 27 (Array.replicate 64 (.int .u8 0)) := hB6
      rw [← zeroV] at hB6
      refine R.storeA t27 hB6 rfl rfl (blkV_size zeroB_ok.1) (blkV_size (Dk.okO hD.ok).1) blkV_ones nofun ?_
      intro w5 hU5 hs5 hN5
      replace hD := hD.upN hU5 hn_hD_6
      replace hB901 := hB901.upT hU5 hB6 (by decide)
      replace hB902 := hB902.upT hU5 hB6 (by decide)
      replace hE := hE.own hU5 hb6
      replace hB6 : Blk _ b6 27 (blkV ((blkO (d.read ((pl + i * d.n : Nat) : Int))))) := hN5
      refine R.assign ?_
      refine R.nil ?_
      refine E.seq ?_
      refine E.regionP rfl ?_
      refine R.loadA t27 hB6 rfl (blkV_size (Dk.okO hD.ok).1) rfl trivial ?_
      refine R.callE1 ent73 (take_ _ (Dk.okO hD.ok)) rfl nofun ?_
      rintro v29 w6 hx6 hT29
      have hE0 := hE
      replace hD := hD.ext hx6
      replace hB901 := hB901.ext hx6
      replace hB902 := hB902.ext hx6
      replace hB6 := hB6.ext hx6
      replace hE := hE.ext hx6
      have hk29 := takeCases ((blkO (d.read ((pl + i * d.n : Nat) : Int))))
      rcases hk29 with hk29 | ⟨g29, j29, dt29, hk29⟩
      · rw [hk29] at hT29
        replace hT29 : _ = Value.tuple _ := hT29
        subst hT29
        refine R.move ?_
        refine R.extract rfl rfl ?_
        refine R.extract rfl rfl ?_
        refine R.extract rfl rfl ?_
        refine R.extract rfl rfl ?_
        refine R.alloc t103 nofun ?_
        intro b8 w7 hb8 hx7 hB8
        replace hb8 := Nat.le_trans hE.size hb8
        replace hD := hD.ext hx7
        replace hB901 := hB901.ext hx7
        replace hB902 := hB902.ext hx7
        replace hB6 := hB6.ext hx7
        replace hE := hE.ext hx7
        replace hB8 : Blk _ b8 103 #[.int .i64 ((0 : Nat) : Int), .int .i64 ((0 : Nat) : Int), .int .i64 ((0 : Nat) : Int), .int .i64 ((0 : Nat) : Int)] := hB8
        refine R.storeA t103 hB8 rfl rfl rfl rfl (ones4 rfl rfl rfl rfl) nofun ?_
        intro w8 hU8 hs8 hN8
        replace hD := hD.upT hU8 hB8 (by decide)
        replace hB901 := hB901.upT hU8 hB8 (by decide)
        replace hB902 := hB902.upT hU8 hB8 (by decide)
        replace hB6 := hB6.upT hU8 hB8 (by decide)
        replace hE := hE.own hU8 hb8
        replace hB8 : Blk _ b8 103 #[.int .i64 ((0 : Nat) : Int), .int .i64 ((0 : Nat) : Int), .int .i64 ((0 : Nat) : Int), .int .i64 ((0 : Nat) : Int)] := hN8
        clear hN8
        refine R.assign ?_
        refine R.assign ?_
        refine R.assign ?_
        refine R.nil ?_
        refine E.seq ?_
        refine E.forget [(0, .func (.yield l) #[] #[]), (2, .pointer (some ⟨b902, 0, none⟩)), (8, .pointer (some ⟨b8, 0, none⟩)), (9, .int .i64 ((0 : Nat) : Int)), (11, .bool (false)), (17, .agg #[.int .i64 ((pl : Nat) : Int), .int .i64 ((pl + d.n : Nat) : Int)]), (18, .int .i64 ((i : Nat) : Int))] ⟨rfl, rfl, rfl, rfl, rfl, rfl, rfl, trivial⟩ (fun e => ?_)
        refine E.regionP rfl ?_
        refine R.move ?_
        refine R.move ?_
        refine R.gF rfl rfl rfl ?_
        refine R.gF rfl rfl rfl ?_
        refine R.gF rfl rfl rfl ?_
        refine R.gF rfl rfl rfl ?_
        refine R.gF rfl rfl rfl ?_
        refine R.pickF rfl ?_
        refine R.nil ?_
        refine E.condF rfl ?_
        refine E.skip ?_
        refine E.forget [(0, .func (.yield l) #[] #[]), (2, .pointer (some ⟨b902, 0, none⟩)), (17, .agg #[.int .i64 ((pl : Nat) : Int), .int .i64 ((pl + d.n : Nat) : Int)]), (18, .int .i64 ((i : Nat) : Int))] ⟨rfl, rfl, rfl, rfl, trivial⟩ (fun e => ?_)
        refine E.regionP rfl ?_
        refine R.addN (m := i) (n := 1) rfl rfl (by omega) ?_
        refine R.move ?_
        refine R.nil ?_
        exact ⟨2 - (i + 1), by omega, i + 1, rfl, by omega, hK i hi1 _ hk29 (hX _ _ _ hI hE), rfl, rfl, rfl, rfl, trivial⟩
      · rw [hk29] at hT29
        obtain ⟨u29, rfl, hS29, hF29⟩ := hT29
        replace hF29 := hF29.mono hE0.size
        refine R.move ?_
        refine R.extract rfl rfl ?_
        refine R.extract rfl rfl ?_
        refine R.extract rfl rfl ?_
        refine R.extract rfl rfl ?_
        refine R.alloc t103 nofun ?_
        intro b8 w9 hb8 hx9 hB8
        replace hb8 := Nat.le_trans hE.size hb8
        replace hD := hD.ext hx9
        replace hS29 := hS29.ext hx9
        replace hB901 := hB901.ext hx9
        replace hB902 := hB902.ext hx9
        replace hB6 := hB6.ext hx9
        replace hE := hE.ext hx9
        replace hB8 : Blk _ b8 103 #[.int .i64 ((0 : Nat) : Int), .int .i64 ((0 : Nat) : Int), .int .i64 ((0 : Nat) : Int), .int .i64 ((0 : Nat) : Int)] := hB8
        refine R.storeA t103 hB8 rfl rfl rfl rfl (ones4 rfl rfl rfl rfl) nofun ?_
        intro w10 hU10 hs10 hN10
        replace hD := hD.upT hU10 hB8 (by decide)
        replace hS29 := hS29.upT hU10 hB8 (by decide)
        replace hB901 := hB901.upT hU10 hB8 (by decide)
        replace hB902 := hB902.upT hU10 hB8 (by decide)
        replace hB6 := hB6.upT hU10 hB8 (by decide)
        replace hE := hE.own hU10 hb8
        replace hB8 : Blk _ b8 103 #[.int .i64 ((g29.total : Nat) : Int), .int .i64 ((g29.number : Nat) : Int), .int .i64 ((g29.life : Nat) : Int), .int .i64 ((g29.first : Nat) : Int)] := hN10
        clear hN10
        refine R.assign ?_
        refine R.assign ?_
        refine R.assign ?_
        refine R.nil ?_
        refine E.seq ?_
        refine E.forget [(0, .func (.yield l) #[] #[]), (2, .pointer (some ⟨b902, 0, none⟩)), (8, .pointer (some ⟨b8, 0, none⟩)), (9, .int .i64 ((j29 : Nat) : Int)), (11, .bool (true)), (17, .agg #[.int .i64 ((pl : Nat) : Int), .int .i64 ((pl + d.n : Nat) : Int)]), (18, .int .i64 ((i : Nat) : Int))] ⟨rfl, rfl, rfl, rfl, rfl, rfl, rfl, trivial⟩ (fun e => ?_)
        refine E.regionP rfl ?_
        refine R.move ?_
        refine R.move ?_
        refine R.gT rfl rfl ?_
        refine R.move ?_
        refine R.gT rfl rfl ?_
        refine R.loadA t103 hB8 rfl rfl rfl trivial ?_
        refine R.gT rfl rfl ?_
        refine R.move ?_
        refine R.gT rfl rfl ?_
        refine R.callY2 rfl rfl rfl (hY i hi1 _ _ _ _ hk29 (hX _ _ _ hI hE)) ?_
        rintro v39 w39 ⟨b39, rfl, hT39, hF39⟩
        refine ⟨nofun, ?_⟩
        refine R.gT rfl rfl ?_
        refine R.not rfl ?_
        refine R.pickT rfl ?_
        refine R.nil ?_
        refine E.cond (b := !(b39)) rfl (fun hc41 => ?_) (fun hc41 => ?_)
        · refine E.ret ?_
          exact retU rfl ⟨_, rfl, rfl, .inr (hF39 (by simpa using hc41))⟩
        · refine E.skip ?_
          refine E.forget [(0, .func (.yield l) #[] #[]), (2, .pointer (some ⟨b902, 0, none⟩)), (17, .agg #[.int .i64 ((pl : Nat) : Int), .int .i64 ((pl + d.n : Nat) : Int)]), (18, .int .i64 ((i : Nat) : Int))] ⟨rfl, rfl, rfl, rfl, trivial⟩ (fun e => ?_)
          refine E.regionP rfl ?_
          refine R.addN (m := i) (n := 1) rfl rfl (by omega) ?_
          refine R.move ?_
          refine R.nil ?_
          exact ⟨2 - (i + 1), by omega, i + 1, rfl, by omega, hT39 (by simpa using hc41), rfl, rfl, rfl, rfl, trivial⟩
    · replace hc19 := dF hc19
      obtain rfl : i = 2 := by omega
      refine E.exit ?_
      exact end0 rfl ⟨_, rfl, rfl, .inl hI⟩
theorem twins_ (w : World) {b900 pl : Nat} :
    Calls Try.prog 68 #[.pointer (some ⟨b900, 0, none⟩), .int .i64 ((pl : Nat) : Int)] w (Ret fun r w' => Ext w w' ∧ ∃ b2 b3, r = .func (.func 72) #[] #[.pointer (some ⟨b3, 0, none⟩), .pointer (some ⟨b2, 0, none⟩)] ∧ w.heap.size ≤ b2 ∧ w.heap.size ≤ b3 ∧ Blk w' b3 3 #[.int .i64 ((pl : Nat) : Int)] ∧ Blk w' b2 32 #[.pointer (some ⟨b900, 0, none⟩)]) := by
  refine calls_E (args := [.pointer (some ⟨b900, 0, none⟩), .int .i64 ((pl : Nat) : Int)]) 6 Try.func68 rfl rfl (by simp) ?_
  have hE : Ext w w := Upd.refl w
  refine E.seq ?_
  refine E.regionP rfl ?_
  refine R.box rfl nofun ?_
  intro b2 w1 hb2 hx1 hB2
  replace hb2 := Nat.le_trans hE.size hb2
  replace hE := hE.ext hx1
  replace hB2 : Blk _ b2 32 #[.pointer (some ⟨b900, 0, none⟩)] := hB2
  refine R.box rfl nofun ?_
  intro b3 w2 hb3 hx2 hB3
  replace hb3 := Nat.le_trans hE.size hb3
  replace hB2 := hB2.ext hx2
  replace hE := hE.ext hx2
  replace hB3 : Blk _ b3 3 #[.int .i64 ((pl : Nat) : Int)] := hB3
  refine R.assign ?_
  refine R.nil ?_
  refine E.seq ?_
  refine E.regionP rfl ?_
  refine R.makeF2 rfl rfl ?_
  refine R.assign ?_
  refine R.nil ?_
  refine E.ret ?_
  refine ret1 (.func (.func 72) #[] #[.pointer (some ⟨b3, 0, none⟩), .pointer (some ⟨b2, 0, none⟩)]) rfl rfl ⟨_, rfl, ?_⟩
  exact ⟨hE, b2, b3, rfl, hb2, hb3, hB3, hB2⟩
end Go.Proofs.Ytlplogplicgfiaa
