import Derived.Test.YtfdmndkoiheebaaZ16Ret1
namespace Go.Proofs.Ytfdmndkoiheebaa
open Go Go.RowKit
def Marks (w0 w : World) (ms : List Nat) : Prop := ms.Nodup ∧ ∀ D ∈ ms, Obj1 w D (.deferred (some [])) ∧ w0.heap.size ≤ D
theorem Marks.nil {w0 w : World} : Marks w0 w [] := ⟨by simp, by simp⟩
theorem Marks.up {X : Nat → Prop} {w0 w w' : World} {ms : List Nat} (h : Marks w0 w ms) (u : Upd X w w') (hx : ∀ D ∈ ms, ¬ X D) : Marks w0 w' ms := ⟨h.1, fun D hD => ⟨(h.2 D hD).1.up u (hx D hD), (h.2 D hD).2⟩⟩
theorem Marks.eq {w0 w : World} {ms ms' : List Nat} (h : Marks w0 w ms) (e : ms' = ms) : Marks w0 w ms' := e ▸ h
theorem Marks.ext {w0 w w' : World} {ms : List Nat} (h : Marks w0 w ms) (u : Ext w w') : Marks w0 w' ms := h.up u fun _ _ => id
theorem Obj1.neB {w : World} {l b : Nat} {o : Obj} {ty : TypeId} {cs : Array Value} (h : Obj1 w l o) (hB : Blk w b ty cs) (ho : ∀ cs ty, o ≠ .cells cs ty (0, 0)) : l ≠ b := fun e => by
  subst e
  exact ho cs ty (Option.some.inj (h.symm.trans hB))
theorem Marks.upB {w0 w w' : World} {ms : List Nat} {b : Nat} {ty : TypeId} {cs : Array Value} (h : Marks w0 w ms) (u : Upd (one b) w w') (hB : Blk w b ty cs) : Marks w0 w' ms := h.up u fun D hD => (h.2 D hD).1.neB hB (by simp)
section
variable {w0 w w' : World} {bj : Nat} {vs : Value} {us : List Value} {vo : Value} {rm : Nat} {vt : Value} {xss : List (List Int)} {H : Nat} {ord : List Int} {ss : List (Int × Int × Int)} {nx : Nat}
theorem Job.jblk (h : Job w0 w bj vs us vo rm vt xss H ord ss nx) {x : Nat} (hx : JB bj vs us vt x) : ∃ ty cs, Blk w x ty cs := by
  rcases hx with rfl | hx | ⟨y, hy, hx⟩ | hx
  · exact ⟨_, _, h.blk⟩
  · obtain ⟨c, q⟩ := h.ms.outer.blk hx; exact ⟨_, _, q⟩
  · obtain ⟨i, hi, rfl⟩ := List.mem_iff_getElem.1 hy
    obtain ⟨c, q⟩ := (h.ms.rowOf (i := i) (by have := h.ms.len; omega) (List.getElem?_eq_getElem hi)).blk hx; exact ⟨_, _, q⟩
  · obtain ⟨c, q⟩ := h.steps.blk hx; exact ⟨_, _, q⟩
theorem Job.notO (h : Job w0 w bj vs us vo rm vt xss H ord ss nx) {l : Nat} {o : Obj} (hO : Obj1 w l o) (ho : ∀ cs ty, o ≠ .cells cs ty (0, 0)) : ¬ JB bj vs us vt l := fun hx => by
  obtain ⟨ty, cs, q⟩ := h.jblk hx
  exact hO.neB q ho rfl
theorem Marks.job {w1 : World} {ms : List Nat} (hM : Marks w1 w ms) (h : Job w0 w bj vs us vo rm vt xss H ord ss nx) (u : Upd (JB bj vs us vt) w w') : Marks w1 w' ms := hM.up u fun D hD => h.notO (hM.2 D hD).1 (by simp)
theorem Job.upX {X : Nat → Prop} (h : Job w0 w bj vs us vo rm vt xss H ord ss nx) (u : Upd X w w') (hX : ∀ x, X x → ¬ JB bj vs us vt x ∧ rm ≠ x ∧ w0.heap.size ≤ x) : Job w0 w' bj vs us vo rm vt xss H ord ss nx :=
  h.up u (fun x e => (hX x e).2.2) (fun e => (hX _ e).1 (.inl rfl)) (fun _ e e1 => (hX _ e1).1 (.inr (.inl e))) (fun y hy _ e e1 => (hX _ e1).1 (.inr (.inr (.inl ⟨y, hy, e⟩)))) (fun e => (hX _ e).2.1 rfl) (fun _ e e1 => (hX _ e1).1 (.inr (.inr (.inr e))))
theorem Ranks.lt (h : Ranks w rm ord) : rm < w.heap.size := by obtain ⟨M, h1, _⟩ := h; exact h1.lt
theorem Ranks.neO {l : Nat} {o : Obj} (h : Ranks w rm ord) (hO : Obj1 w l o) (ho : ∀ M c, o ≠ .map M c) : rm ≠ l := fun e => by
  obtain ⟨M, ⟨es, cl, h1, _⟩, _⟩ := h
  subst e
  exact ho es cl (Option.some.inj (hO.symm.trans h1))
end
theorem E.forgetM {md : Mode} {P : Program} {N : Nat} {Q : Exit → Env → World → Prop} {e : Env} {w : World} {c : Code} (l : List (Nat × Value)) (h : Has e l) (k : ∀ e', e'.ms = e.ms → wpE md P N c Q (mk e' l) w) : wpE md P N c Q e w := by
  have e1 := h.mk
  rw [e1]
  exact k e rfl
theorem blk_n {id : Nat} {Q : Exit → Env → World → Prop} {e : Env} {w : World} (h : Q .normal e w) : E.blk id Q .normal e w := h
theorem roundQ_n {l : Nat} {r : Loop} {Φ : Value → World → Prop} {e : Env} {w : World} (h1 : Obj1 w l (.loop { r with state := .busy })) (h2 : ∀ w', Upd (one l) w w' → Obj1 w' l (.loop { r with state := .ready, pending := none }) → Φ (.bool true) w') : roundQ l r Φ .normal e w := ⟨h1, h2⟩
theorem beginQ_n {P : Program} {N l : Nat} {r : Loop} {body : Code} {Φ : Value → World → Prop} {e : Env} {w : World} (h1 : Obj1 w l (.loop r)) (h2 : ∀ w2, Upd (one l) w w2 → Obj1 w2 l (.loop { r with state := .busy }) → wpE ⟨some l, false⟩ P N body (roundQ l r Φ) e w2) : beginQ P N l r body Φ .normal e w := ⟨h1, h2⟩
theorem loop_back {r : Loop} (h1 : r.state = .ready) (h2 : r.pending = none) : { r with state := .ready, pending := none } = r := by
  cases r; simp_all
theorem yields2 {P : Program} {N l a b : Nat} {e : Env} {assign body : Code} {r : Loop} {u v : Value} {w : World} {Φ : Value → World → Prop} (hr : LRec N e #[a, b] assign body r) (hl : Obj1 w l (.loop r)) (hs : r.state = .ready) (ha : a < N) (hb : b < N)
    (h : wpE ⟨some l, false⟩ P N assign (beginQ P N l r body Φ) (upd (upd e a u) b v) w) : Yields P l #[u, v] w Φ := by
  have e1 : (#[a, b].zip #[u, v]).toList = [(a, u), (b, v)] := by simp
  refine yields_of hr hl hs rfl (fun p hp => ?_) ?_
  · rw [e1] at hp; simp at hp; rcases hp with rfl | rfl <;> assumption
  · rw [e1]; exact h
theorem loopQ_n {l D : Nat} {Q : Exit → Env → World → Prop} {e : Env} {w : World} {r : Loop} (h1 : Obj1 w l (.loop r)) (h2 : r.state = .ready) (h3 : r.pending = none) (h : ∀ w', Upd (one l) w w' → Q .normal ⟨e.val, D :: e.ms⟩ w') : loopQ l D Q e w :=
  ⟨r, h1, by rw [h2]; simp, fun w' u => by rw [h3]; exact h w' u⟩
theorem retM2 {P : Program} {fn : Func} {R : Ending → World → Prop} {e : Env} {w w0 : World} {t u : Tmp} {ms : List Nat} (v1 v2 : Value) (hr : fn.results = #[.tmp t, .tmp u]) (h1 : e t = v1) (h2 : e u = v2) (hms : e.ms = ms) (hM : Marks w0 w ms) (h : ∀ w', Upd (fun x => x ∈ ms) w w' → R (.returned (.tuple #[v1, v2])) w') : bodyM P fn R .ret e w := by
  obtain ⟨w', q1, q2⟩ := Takes.run (P := P) ms w hM.1 (fun D hD => (hM.2 D hD).1)
  exact ⟨w', _, by rw [hms]; exact q1, fun tmps ht => by rw [results_tmp2 hr, ht, ht, h1, h2], h w' q2⟩
theorem othB_skip {xss : List (List Int)} {H : Nat} {ord : List Int} {fr : Int} {i : Nat} (hi : i < xss.length) (h : (i : Int) = fr ∨ xss[i].length = H) : othB xss H ord fr (i + 1) = othB xss H ord fr i := by
  have g : xss.getD i [] = xss[i] := by simp [hi]
  simp only [othB]; rw [g, if_pos h]
theorem othB_step {xss : List (List Int)} {H : Nat} {ord : List Int} {fr : Int} {i : Nat} (hi : i < xss.length) (h : (i : Int) ≠ fr) (h2 : xss[i].length ≠ H) : othB xss H ord fr (i + 1) = if (othB xss H ord fr i).2 < (leastL ord xss[i] : Nat) then ((i : Int), ((leastL ord xss[i] : Nat) : Int)) else othB xss H ord fr i := by
  have g : xss.getD i [] = xss[i] := by simp [hi]
  simp only [othB]; rw [g, if_neg (by omega)]
set_option maxHeartbeats 6400000 in
theorem yRun (w : World) {v vo : Value} {h : Int} {us : List Value} {xss : List (List Int)} {ord : List Int} (hm : Mat w v us xss) (ho : Ints w vo ord) (hl : xss.length < 1000000) (hx : ∀ xs ∈ xss, xs.length < 1000000) (hol : ord.length < 100000) :
    Calls Try.prog 45 #[.agg #[v, .int .i64 h], vo] w (Ret fun r w' => Ext w w' ∧ ∃ u, r = .tuple #[u, .int .i64 (runR xss h ord).2] ∧ Sl w' 68 3 u (runR xss h ord).1.length (stepsC (runR xss h ord).1) ∧ Fresh w u) := by
  have hol' : ord.length < 1000000000 := by omega
  cases hb : beginB xss h ord
  rotate_left
  · obtain ⟨hRP, hOP⟩ := beginB_right hb
    obtain ⟨H, rfl, hH0, hH6, hl30, hl1, hxH⟩ := rightB_nat hRP.b
    have hRR : runR xss H ord = runG H ord (7 * ord.length + 7) xss 0 [] := by simp [runR, hb]
    refine calls_M (args := [.agg #[v, .int .i64 H], vo]) 70 Try.func45 rfl rfl (by simp) ?_
    have hE : Ext w w := Upd.refl w
    refine E.seq ?_
    refine E.regionP rfl ?_
    refine R.box rfl nofun ?_
    intro b2 w1 hb2 hx1 hB2
    replace hb2 := Nat.le_trans hE.size hb2
    replace hE := hE.ext hx1
    replace hB2 : Blk _ b2 24 #[v, .int .i64 H] := hB2
    refine R.assign ?_
    refine R.assign ?_
    refine R.nil ?_
    refine E.seq ?_
    refine E.regionP rfl ?_
    refine R.loadA t24 hB2 rfl rfl rfl trivial ?_
    refine R.move ?_
    refine R.callE2 ent73 (begin1 _ (hm.ext hE) (ho.ext hE) hl hx hol' hb) rfl rfl nofun ?_
    rintro v17 w2 hx2 ⟨bj, vs, us0, rm, vt, rfl, hJob⟩
    have hE1 := hE
    replace hB2 := hB2.ext hx2
    replace hE := hE.ext hx2
    refine R.move ?_
    refine R.extract rfl rfl ?_
    refine R.extract rfl rfl ?_
    refine R.assign ?_
    refine R.assign ?_
    refine R.nil ?_
    refine E.seq ?_
    refine E.seq ?_
    refine E.regionP rfl ?_
    refine R.move ?_
    refine R.not rfl ?_
    refine R.nil ?_
    refine E.condF rfl ?_
    refine E.skip ?_
    refine E.seq ?_
    refine E.block ?_
    refine E.loop (fun n e wr => ∃ (ys : List (List Int)) (nx : Nat) (ss : List (Int × Int × Int)) (us1 : List Value) (vt1 : Value), GoodJ ys H ord nx ∧ nx ≤ ord.length ∧ (∀ h : nx < ord.length, 7 * (ord.length - nx) + abv ys ord[nx] ≤ n) ∧ ss.length + n ≤ 7 * ord.length + 7 ∧ runG H ord n ys nx ss = runG H ord (7 * ord.length + 7) xss 0 [] ∧ Ext w wr ∧ Job w1 wr bj vs us1 vo rm vt1 ys H ord ss nx ∧ Marks w wr e.ms ∧ Has e [(1, vo), (6, .pointer (some ⟨bj, 0, none⟩))]) (7 * ord.length + 7) ?_ ?_
    · exact ⟨xss, 0, [], us0, vt, GoodJ.start hb, Nat.zero_le _, fun h2 => by have := (GoodJ.start hb).abv_le ord[0]; omega, by simp, rfl, hE, hJob, Marks.nil, rfl, rfl, trivial⟩
    · rintro n e wr ⟨ys, nx, ss, us1, vt1, hG, hnx, hmu, hsn, hq, hE, hJob, hMk, hH⟩
      obtain ⟨e, rfl⟩ := hH.ex
      clear hH
      replace hMk : Marks w wr e.ms := hMk
      refine E.seq ?_
      refine E.seq ?_
      refine E.regionP rfl ?_
      refine R.move ?_
      refine R.nilCheck rfl ?_
      refine R.fld fa108_5 rfl ?_
      refine R.loadB t3 hJob.blk rfl rfl rfl trivial ?_
      refine R.move ?_
      refine R.len Try.underlying35 ho rfl ?_
      refine R.lss rfl rfl rfl ?_
      refine R.nil ?_
      refine E.cond rfl (fun hc28 => ?_) (fun hc28 => ?_)
      · replace hc28 := dT hc28
        have hn : nx < ord.length := by omega
        have hmu := hmu hn
        obtain ⟨n, rfl⟩ : ∃ m, n = m + 1 := ⟨n - 1, by omega⟩
        obtain ⟨a, k, ha, hk, hak, hF⟩ := hG.at hn
        have hal := sum_lengths hG.right _ (List.getElem_mem ha)
        have htop := topL_at ha (show 0 < ys[a].length by omega)
        refine E.skip ?_
        refine E.block ?_
        refine E.seq ?_
        refine E.regionP rfl ?_
        refine R.move ?_
        refine R.callE1 ent75 (where_ _ hJob.blk hJob.ms.mat (hJob.ordI.ext hJob.ext) hG.right.l6 hG.right.x6 hn) rfl nofun ?_
        rintro v31 w3 hx3 rfl
        rw [whereL_some hF]
        replace hJob := hJob.ex hx3
        replace hMk := hMk.ext hx3
        replace hE := hE.ext hx3
        refine R.move ?_
        refine R.extract rfl rfl ?_
        refine R.extract rfl rfl ?_
        refine R.assign ?_
        refine R.assign ?_
        refine R.nil ?_
        refine E.seq ?_
        refine E.seq ?_
        refine E.regionP rfl ?_
        refine R.move ?_
        refine R.nil ?_
        refine E.cond rfl (fun hc34 => ?_) (fun hc34 => ?_)
        · replace hc34 := dT hc34
          have hu : k + 1 = ys[a].length := by
            have := (hG.right.inj ha (show ys[a].length - 1 < ys[a].length by omega) ha hk (by rw [hak, ← htop]; exact hc34)).2
            omega
          obtain ⟨hdo, hG1⟩ := hG.leave hn ha hk hak hu
          refine E.seq ?_
          refine E.regionP rfl ?_
          refine R.move ?_
          refine R.move ?_
          refine R.move ?_
          refine R.nilCheck rfl ?_
          refine R.fld fa108_5 rfl ?_
          refine R.loadB t3 hJob.blk rfl rfl rfl trivial ?_
          refine R.ix (m := nx) Try.underlying35 t3 (by decide) ho rfl rfl hn ?_
          refine R.ld (j := nx) t3 (ho.ext hE) rfl (int_at hn) rfl (fun _ _ => trivial) ?_
          refine R.move ?_
          refine R.build build68 rfl ?_
          refine R.call2 ent76 (do_ w1 _ hJob hG.right.2.2.2.1 (sum_lengths hG.right) hnx (by omega) (by omega)) rfl rfl ?_
          rintro v45 w45 ⟨hU45, hD45⟩
          refine ⟨nofun, ?_⟩
          replace hMk := hMk.job hJob hU45
          replace hE := hE.trans hU45 (fun b hb hx => by have := hJob.ge hx; have := hE1.size; omega)
          obtain ⟨rfl, us2, vt2, hJob⟩ := hD45.some_ hdo
          refine R.nil ?_
          refine E.exit ?_
          exact ⟨n, by omega, _, nx + 1, _, us2, vt2, hG1, by omega, fun h2 => by have := hG1.abv_le ord[nx + 1]; omega, by simp; omega, by rw [← hq, runG_leave hn hF hc34 hdo], hE, hJob, hMk, rfl, rfl, trivial⟩
        · replace hc34 := dF hc34
          have hu : k + 1 < ys[a].length := by
            rcases Nat.lt_or_ge (k + 1) ys[a].length with h | h
            · exact h
            · exact absurd (by rw [htop, ← hak]; congr 1; omega) hc34
          refine E.skip ?_
          refine E.seq ?_
          refine E.regionP rfl ?_
          refine R.alloc t3 nofun ?_
          intro b10 w10 hb10 hx10 hB10
          have hn10 : ¬ JB bj vs us1 vt1 b10 := fun h => by have := hJob.lt h; omega
          replace hb10 : w1.heap.size ≤ b10 := Nat.le_trans hJob.ext.size hb10
          replace hJob := hJob.ex hx10
          replace hMk := hMk.ext hx10
          replace hE := hE.ext hx10
          replace hB10 : Blk _ b10 3 #[.int .i64 0] := hB10
          refine R.alloc t3 nofun ?_
          intro b11 w11 hb11 hx11 hB11
          have hn11 : ¬ JB bj vs us1 vt1 b11 := fun h => by have := hJob.lt h; omega
          have ne10_11 : b10 ≠ b11 := by have := hB10.lt; omega
          replace hb11 : w1.heap.size ≤ b11 := Nat.le_trans hJob.ext.size hb11
          replace hJob := hJob.ex hx11
          replace hMk := hMk.ext hx11
          replace hB10 := hB10.ext hx11
          replace hE := hE.ext hx11
          replace hB11 : Blk _ b11 3 #[.int .i64 0] := hB11
          refine R.store t3 hB10 rfl rfl rfl (by simp) nofun ?_
          intro w12 hU12 hs12 hN12
          replace hJob := hJob.upN hU12 hn10 (hJob.ranks.ne hB10) hb10
          replace hMk := hMk.upB hU12 hB10
          replace hB11 := hB11.up hU12 (fun h => ne10_11 h.symm)
          replace hE := hE.own hU12 (Nat.le_trans hE1.size hb10)
          replace hB10 : Blk _ b10 3 #[.int .i64 (-1)] := hN12
          refine R.store t3 hB11 rfl rfl rfl (by simp) nofun ?_
          intro w13 hU13 hs13 hN13
          replace hJob := hJob.upN hU13 hn11 (hJob.ranks.ne hB11) hb11
          replace hMk := hMk.upB hU13 hB11
          replace hB10 := hB10.up hU13 (fun h => ne10_11 h)
          replace hE := hE.own hU13 (Nat.le_trans hE1.size hb11)
          replace hB11 : Blk _ b11 3 #[.int .i64 (-1)] := hN13
          refine R.nil ?_
          refine E.seq ?_
          refine E.seq ?_
          refine E.regionP rfl ?_
          refine R.move ?_
          refine R.move ?_
          refine R.callE2 ent78 (others_ _) rfl rfl nofun ?_
          rintro v48 w4 hx4 ⟨c2, c3, rfl, hc2, hc3, hBc2, hBc3⟩
          have hne2a : c2 ≠ b10 := by have := hB10.lt; omega
          have hne2b : c2 ≠ b11 := by have := hB11.lt; omega
          have hne3a : c3 ≠ b10 := by have := hB10.lt; omega
          have hne3b : c3 ≠ b11 := by have := hB11.lt; omega
          replace hJob := hJob.ex hx4
          replace hMk := hMk.ext hx4
          replace hB10 := hB10.ext hx4
          replace hB11 := hB11.ext hx4
          replace hE := hE.ext hx4
          refine R.nil ?_
          refine E.block ?_
          refine E.forgetM [(1, vo), (6, .pointer (some ⟨bj, 0, none⟩)), (8, .int .i64 ((a : Nat) : Int)), (10, .pointer (some ⟨b10, 0, none⟩)), (11, .pointer (some ⟨b11, 0, none⟩)), (48, .func (.func 95) #[] #[.pointer (some ⟨c2, 0, none⟩), .pointer (some ⟨c3, 0, none⟩)])] ⟨rfl, rfl, rfl, rfl, rfl, rfl, trivial⟩ (fun e0 he0 => ?_)
          replace hMk := hMk.eq he0
          clear he0
          refine E.rangeF (gf := 95) (cap := #[.pointer (some ⟨c2, 0, none⟩), .pointer (some ⟨c3, 0, none⟩)]) rfl ent95 ?_
          intro wl r D hxl hDl hDo hLo hLr hrs hrp
          have hDw : w.heap.size ≤ D := Nat.le_trans hE.size hDl
          have hD1 : w1.heap.size ≤ D := Nat.le_trans hJob.ext.size hDl
          have hDm : D ∉ e0.ms := fun h => by have := (hMk.2 D h).1.lt; omega
          have hDm1 : D + 1 ∉ e0.ms := fun h => by have := (hMk.2 _ h).1.lt; omega
          replace hJob := hJob.ex hxl
          replace hMk := hMk.ext hxl
          replace hBc2 := hBc2.ext hxl
          replace hBc3 := hBc3.ext hxl
          replace hB10 := hB10.ext hxl
          replace hB11 := hB11.ext hxl
          replace hE := hE.ext hxl
          have hB10o := hB10
          have hB11o := hB11
          have hXX : ∀ x, (x = b10 ∨ x = b11 ∨ x = D + 1) → ¬ JB bj vs us1 vt1 x ∧ rm ≠ x ∧ w1.heap.size ≤ x := by
            rintro x (rfl | rfl | rfl)
            · exact ⟨hn10, hJob.ranks.ne hB10, hb10⟩
            · exact ⟨hn11, hJob.ranks.ne hB11, hb11⟩
            · exact ⟨hJob.notO hLo (by simp), hJob.ranks.neO hLo (by simp), by omega⟩
          have hcc2 : ∀ x, (x = b10 ∨ x = b11 ∨ x = D + 1) → c2 ≠ x := by
            rintro x (rfl | rfl | rfl)
            · exact hne2a
            · exact hne2b
            · exact fun e => hLo.neB hBc2 (by simp) e.symm
          have hcc3 : ∀ x, (x = b10 ∨ x = b11 ∨ x = D + 1) → c3 ≠ x := by
            rintro x (rfl | rfl | rfl)
            · exact hne3a
            · exact hne3b
            · exact fun e => hLo.neB hBc3 (by simp) e.symm
          refine (others1 wl (l := D + 1) (b900 := bj) (b901 := c2) (b902 := c3) (H := H) (rm := rm) (nx := nx) (vs := vs) (vo := vo) (xss := ys) (ord := ord) (fr := ((a : Nat) : Int)) (Inv := fun i wr => Obj1 wr (D + 1) (.loop r) ∧ Upd (fun x => x = b10 ∨ x = b11 ∨ x = D + 1) wl wr ∧ Blk wr b10 3 #[.int .i64 (othB ys H ord ((a : Nat) : Int) i).1] ∧ Blk wr b11 3 #[.int .i64 (othB ys H ord ((a : Nat) : Int) i).2]) (Stop := fun _ => False) ?_ ?_ ?_ ?_ ?_ hG.right.2.2.2.1 (sum_lengths hG.right) (by omega)).mono ?_
          · exact ⟨hLo, Upd.refl _, hB10, hB11⟩
          · rintro i wr ⟨q1, q2, q3, q4⟩
            have hJ2 := hJob.upX q2 hXX
            exact ⟨⟨us1, vt1, hJ2.blk, hJ2.ms.mat, hJ2.ordI.ext hJ2.ext, hJ2.ranks⟩, hBc2.up q2 (fun e => hcc2 _ e rfl), hBc3.up q2 (fun e => hcc3 _ e rfl)⟩
          · rintro i wr w' ⟨q1, q2, q3, q4⟩ q
            exact ⟨q1.ext q, q2.ext q, q3.ext q, q4.ext q⟩
          · rintro i hi wr hq ⟨q1, q2, q3, q4⟩
            exact ⟨q1, q2, by rw [othB_skip hi hq]; exact q3, by rw [othB_skip hi hq]; exact q4⟩
          · rintro i hi wr hq hq2 ⟨hL1, hU1, hB10, hB11⟩
            have hE : NoE w wr := trivial
            refine yields2 hLr hL1 hrs (by decide) (by decide) ?_
            refine E.seq ?_
            refine E.regionP rfl ?_
            refine R.assign ?_
            refine R.nil ?_
            refine E.regionP rfl ?_
            refine R.assign ?_
            refine R.nil ?_
            refine beginQ_n hL1 (fun w2 hU2 hL2 => ?_)
            replace hB10 := hB10.up hU2 (fun e => hL1.neB hB10 (by simp) e.symm)
            replace hB11 := hB11.up hU2 (fun e => hL1.neB hB11 (by simp) e.symm)
            replace hU1 := hU1.trans hU2 (fun x _ h => .inr (.inr h))
            refine E.block ?_
            refine E.seq ?_
            refine E.regionP rfl ?_
            refine R.move ?_
            refine R.loadB t3 hB11 rfl rfl rfl trivial ?_
            refine R.gtr rfl rfl rfl ?_
            refine R.nil ?_
            refine E.cond rfl (fun hc53 => ?_) (fun hc53 => ?_)
            · replace hc53 := dT hc53
              refine E.regionP rfl ?_
              refine R.move ?_
              refine R.move ?_
              refine R.store t3 hB10 rfl rfl rfl (by simp) nofun ?_
              intro w5 hU5 hs5 hN5
              replace hL2 := hL2.up hU5 (hL2.neB hB10 (by simp))
              replace hB11 := hB11.up hU5 (fun h => ne10_11 h.symm)
              replace hU1 := hU1.trans hU5 (fun x _ h => .inl h)
              replace hB10 : Blk _ b10 3 #[.int .i64 ((i : Nat) : Int)] := hN5
              refine R.store t3 hB11 rfl rfl rfl (by simp) nofun ?_
              intro w6 hU6 hs6 hN6
              replace hL2 := hL2.up hU6 (hL2.neB hB11 (by simp))
              replace hB10 := hB10.up hU6 (fun h => ne10_11 h)
              replace hU1 := hU1.trans hU6 (fun x _ h => .inr (.inl h))
              replace hB11 : Blk _ b11 3 #[.int .i64 ((leastL ord ys[i] : Nat) : Int)] := hN6
              refine R.nil ?_
              refine blk_n (roundQ_n hL2 (fun w7 hU7 hL7 => ?_))
              refine ⟨true, rfl, fun _ => ⟨by rw [loop_back hrs hrp] at hL7; exact hL7, hU1.trans hU7 (fun x _ h => .inr (.inr h)), ?_, ?_⟩, nofun⟩
              · rw [othB_step hi hq hq2, if_pos (by omega)]; exact hB10.up hU7 (fun e => hL2.neB hB10 (by simp) e.symm)
              · rw [othB_step hi hq hq2, if_pos (by omega)]; exact hB11.up hU7 (fun e => hL2.neB hB11 (by simp) e.symm)
            · replace hc53 := dF hc53
              refine E.skip ?_
              refine blk_n (roundQ_n hL2 (fun w7 hU7 hL7 => ?_))
              refine ⟨true, rfl, fun _ => ⟨by rw [loop_back hrs hrp] at hL7; exact hL7, hU1.trans hU7 (fun x _ h => .inr (.inr h)), ?_, ?_⟩, nofun⟩
              · rw [othB_step hi hq hq2, if_neg (by omega)]; exact hB10.up hU7 (fun e => hL2.neB hB10 (by simp) e.symm)
              · rw [othB_step hi hq hq2, if_neg (by omega)]; exact hB11.up hU7 (fun e => hL2.neB hB11 (by simp) e.symm)
          rintro _ w3 ⟨_, rfl, _, ⟨hL3, hU3, hB10, hB11⟩ | hI⟩
          rotate_left
          · exact hI.elim
          refine ⟨_, rfl, loopQ_n hL3 hrs hrp (fun w4 hU4 => ?_)⟩
          replace hB10 := hB10.up hU4 (fun e => hL3.neB hB10 (by simp) e.symm)
          replace hU3 := hU3.trans hU4 (fun x _ h => .inr (.inr h))
          replace hMk : Marks w w4 (D :: e0.ms) := ⟨List.nodup_cons.2 ⟨hDm, hMk.1⟩, by
            intro x hxm
            rcases List.mem_cons.1 hxm with rfl | hxm
            · exact ⟨hDo.up hU3 (by rintro (e | e | e); (exact hDo.neB hB10o (by simp) e); (exact hDo.neB hB11o (by simp) e); omega), hDw⟩
            · have hO := (hMk.2 x hxm).1
              exact ⟨hO.up hU3 (by rintro (e | e | e); (exact hO.neB hB10o (by simp) e); (exact hO.neB hB11o (by simp) e); (exact hDm1 (e ▸ hxm))), (hMk.2 x hxm).2⟩⟩
          replace hE := hE.trans hU3 (fun x hxx hX => by have := (hXX x hX).2.2; have := hE1.size; omega)
          replace hJob := hJob.upX hU3 hXX
          clear hBc2 hBc3 hB11
          refine E.forgetM [(1, vo), (6, .pointer (some ⟨bj, 0, none⟩)), (8, .int .i64 ((a : Nat) : Int)), (10, .pointer (some ⟨b10, 0, none⟩))] ⟨rfl, rfl, rfl, rfl, trivial⟩ (fun e1 he1 => ?_)
          replace hMk := hMk.eq he1
          clear he1
          refine E.seq ?_
          refine E.seq ?_
          refine E.regionP rfl ?_
          refine R.loadB t3 hB10 rfl rfl rfl trivial ?_
          refine R.lss rfl rfl rfl ?_
          refine R.nil ?_
          refine E.cond rfl (fun hc57 => ?_) (fun hc57 => ?_)
          · replace hc57 := dT hc57
            refine E.seq ?_
            refine E.regionP rfl ?_
            refine R.assign ?_
            refine R.assign ?_
            refine R.nil ?_
            refine E.ret ?_
            refine retM2 (.slice none 0 0) (.int .i64 4) rfl rfl rfl rfl hMk (fun w9 hU9 => ⟨_, rfl, hE.trans hU9 (fun x hxx hX => by have := (hMk.2 x hX).2; omega), (.slice none 0 0), ?_, ?_, ?_⟩)
            · rw [hRR, ← hq, runG_full hn hF hc34 (by omega)]
            · rw [hRR, ← hq, runG_full hn hF hc34 (by omega)]; exact Sl.nil _ _ _
            · exact Fresh.nil _
          · replace hc57 := dF hc57
            obtain ⟨j, hj, e1, hjf, hjH⟩ : ∃ (j : Nat) (hj : j < ys.length), (othB ys H ord ((a : Nat) : Int) ys.length).1 = j ∧ (j : Int) ≠ ((a : Nat) : Int) ∧ ys[j].length ≠ H := by
              rcases othB_spec (xss := ys) (H := H) (ord := ord) (fr := ((a : Nat) : Int)) ys.length (Nat.le_refl _) with q | ⟨j, hj, _, q1, q2, q3, _⟩
              · rw [q] at hc57; exact absurd hc57 (by decide)
              · exact ⟨j, hj, q1, q2, q3⟩
            obtain ⟨hsh, hdo1⟩ := doL_shift (ord := ord) (nx := nx) hG.right ha (by omega) hj (by omega) hjH
            have hdo : doL ys H ord nx (topL ys ((a : Nat) : Int), ((a : Nat) : Int), (othB ys H ord ((a : Nat) : Int) ys.length).1) = some ((shiftL ys H a j).1, nx) := by rw [e1, htop]; exact hdo1
            obtain ⟨hG1, _, hab⟩ := hG.reloc ha hk hu hj (by omega) hjH
            rw [hak] at hab
            refine E.skip ?_
            refine E.regionW (fun c x => x < w4.heap.size ∧ (c = false → x = b10)) []  mixed rfl (by kernel_rfl) ?_
            intro w5 hx5 hh5
            replace hJob := hJob.ex hx5
            replace hMk := hMk.ext hx5
            replace hB10 := hB10.ext hx5
            replace hE := hE.ext hx5
            have hEs : Ext w5 w5 := Upd.refl _
            have hS0 := hx5.size
            have hSB : ∀ b, b < w5.heap.size → b < w4.heap.size ∧ (true = false → (fun x => x = b10) b) := fun b hb => ⟨by rw [hh5] at hb; exact hb, nofun⟩
            have hSA : ∀ b, b < w5.heap.size → (fun x => x = b10) b → b < w4.heap.size ∧ (false = false → (fun x => x = b10) b) := fun b hb h => ⟨by rw [hh5] at hb; exact hb, fun _ => h⟩
            have hJobs := hJob
            have hMks := hMk
            have hJob.blks := hJob.blk
            have hB10s := hB10
            refine R.move ?_
            refine R.move ?_
            refine R.move ?_
            refine R.callE2 ent79 (top_ _ hJob.blk hJob.ms.mat hG.right.x6) rfl rfl (fun _ _ hb => Nat.lt_of_lt_of_le hb.1 (Nat.le_trans hS0 hEs.size)) ?_
            rintro v61 w6 hx6 rfl
            replace hJob := hJob.ex hx6
            replace hMk := hMk.ext hx6
            replace hB10 := hB10.ext hx6
            replace hE := hE.ext hx6
            replace hEs := hEs.ext hx6
            refine R.move ?_
            refine R.loadB t3 hB10 rfl rfl rfl (hSA b10 hB10s.lt (rfl)) ?_
            refine R.build build68 rfl ?_
            refine R.call2 ent76 (do_ w1 _ hJob hG.right.2.2.2.1 (sum_lengths hG.right) hnx (by omega) (by omega)) rfl rfl ?_
            rintro v65 w65 ⟨hU65, hD65⟩
            refine ⟨fun _ b hb => hU65.blk b (Nat.lt_of_lt_of_le hb.1 (Nat.le_trans hS0 hEs.size)) (fun hx => by rw [hb.2 rfl] at hx; exact hn10 hx), ?_⟩
            replace hMk := hMk.job hJob hU65
            replace hE := hE.trans hU65 (fun b hb hx => by have := hJob.ge hx; have := hE1.size; omega)
            obtain ⟨rfl, us2, vt2, hJob⟩ := hD65.some_ hdo
            refine R.nil ?_
            exact ⟨n, by omega, _, nx, _, us2, vt2, hG1, hnx, fun h2 => by omega, by simp; omega, by rw [← hq, runG_reloc hn hF hc34 hc57 hdo], hE, hJob, hMk, rfl, rfl, trivial⟩
      · replace hc28 := dF hc28
        have hn : ¬ nx < ord.length := by omega
        rw [runG_end hn] at hq
        refine E.exit ?_
        refine E.seq ?_
        refine E.regionP rfl ?_
        refine R.move ?_
        refine R.nilCheck rfl ?_
        refine R.fld fa108_4 rfl ?_
        refine R.loadB t62 hJob.blk rfl rfl rfl trivial ?_
        refine R.assign ?_
        refine R.assign ?_
        refine R.nil ?_
        refine E.ret ?_
        refine retM2 vt1 (.int .i64 0) rfl rfl rfl rfl hMk (fun w9 hU9 => ⟨_, rfl, hE.trans hU9 (fun x hxx hX => by have := (hMk.2 x hX).2; omega), vt1, ?_, ?_, hJob.ft.mono hE1.size⟩)
        · rw [hRR, ← hq]
        · rw [hRR, ← hq]; exact hJob.steps.up hU9 (fun x e hX => hJob.notO (hMk.2 x hX).1 (by simp) (.inr (.inr (.inr e))))
  · refine calls_M (args := [.agg #[v, .int .i64 h], vo]) 70 Try.func45 rfl rfl (by simp) ?_
    have hE : Ext w w := Upd.refl w
    refine E.seq ?_
    refine E.regionP rfl ?_
    refine R.box rfl nofun ?_
    intro b2 w1 hb2 hx1 hB2
    replace hb2 := Nat.le_trans hE.size hb2
    replace hE := hE.ext hx1
    replace hB2 : Blk _ b2 24 #[v, .int .i64 h] := hB2
    refine R.assign ?_
    refine R.assign ?_
    refine R.nil ?_
    refine E.seq ?_
    refine E.regionP rfl ?_
    refine R.loadA t24 hB2 rfl rfl rfl trivial ?_
    refine R.move ?_
    refine R.callE2 ent73 (begin0 _ (hm.ext hE) (ho.ext hE) hl hx hol' hb) rfl rfl nofun ?_
    rintro v17 w2 hx2 rfl
    replace hB2 := hB2.ext hx2
    replace hE := hE.ext hx2
    refine R.move ?_
    refine R.extract rfl rfl ?_
    refine R.extract rfl rfl ?_
    refine R.assign ?_
    refine R.assign ?_
    refine R.nil ?_
    refine E.seq ?_
    refine E.seq ?_
    refine E.regionP rfl ?_
    refine R.move ?_
    refine R.not rfl ?_
    refine R.nil ?_
    refine E.condT rfl ?_
    refine E.seq ?_
    refine E.regionP rfl ?_
    refine R.assign ?_
    refine R.assign ?_
    refine R.nil ?_
    refine E.ret ?_
    have hRR : runR xss h ord = ([], 2) := by simp [runR, hb]
    rw [hRR]
    refine retM2 (w0 := w) (ms := []) (.slice none 0 0) (.int .i64 2) rfl rfl rfl rfl Marks.nil (fun w9 hU9 => ⟨_, rfl, hE.trans hU9 (fun x hxx hX => by simp at hX), .slice none 0 0, rfl, Sl.nil _ _ _, Fresh.nil _⟩)
end Go.Proofs.Ytfdmndkoiheebaa
