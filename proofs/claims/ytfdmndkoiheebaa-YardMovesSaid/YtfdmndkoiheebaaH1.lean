/- YardWrong -/
import Derived.Test.YtfdmndkoiheebaaG2
import Derived.Test.YtfdmndkoiheebaaE2
namespace Go.Proofs.Ytfdmndkoiheebaa
open Go Go.RowKit


/-- A cut: what holds behind a part of the code. -/
theorem E.cutM {P : Program} {N : Nat} {Q : Exit → Env → World → Prop} {next : Env → World → Prop} {e : Env} {w : World} {c : Code} (M : Env → World → Prop) (h : wpE P N c (E.thn M Q) e w) (h2 : ∀ e w, M e w → next e w) : wpE P N c (E.thn next Q) e w :=
  E.mono (fun x e w q => by cases x <;> first | exact h2 _ _ q | exact q) h
theorem R.neg {P : Program} {ops : Array Oper} {S : Bool → Nat → Prop} {dr : Bool} {B : List Nat} {F : Env → World → Prop} {rest : List Oper} {e : Env} {w : World} {d : Tmp} {ty : TypeId} {pos : String} {aft : Array Edge} {t : TypeId} {x : Operand} {n : Int} (hx : ev e x = .int .i64 n) (h1 : -9223372036854775808 ≤ -n) (h2 : -n ≤ 9223372036854775807)
    (h : wpR P ops S dr (kind B) F rest (upd e d (.int .i64 (-n))) w) : wpR P ops S dr (kind B) F (⟨some d, .unOp .neg t x, ty, pos, aft, none⟩ :: rest) e w :=
  R.quiet _ rfl (fun w' _ => by simp [execOp, hx, Op.unary, Op.intArith, R.wrap64 h1 h2]) h
theorem MO.set {w w' : World} {v u : Value} {us : List Value} {xss : List (List Int)} {xs : List Int} {i : Nat} (h : MO w v us xss) (hi : i < xss.length) (hx : SInts w u xs) (hU : Upd (fun b => vblk v = some b) w w') (hO : Sl w' 35 1 v xss.length (us.set i u)) : MO w' v (us.set i u) (xss.set i xs) := by
  have hl := h.outer.len
  refine ⟨by rw [List.length_set]; exact hO, fun j hj => ?_⟩
  rw [List.length_set] at hj
  by_cases hij : i = j
  · subst hij
    exact ⟨u, by rw [List.getElem?_set_self (by omega)], by rw [List.getElem_set_self]; exact hx.upS hU h.outer (by decide)⟩
  · obtain ⟨y, h1, h2⟩ := h.elems j hj
    exact ⟨y, by rw [List.getElem?_set_ne hij]; exact h1, by rw [List.getElem_set_ne hij]; exact h2.upS hU h.outer (by decide)⟩
theorem wrong_long {xss : List (List Int)} {h : Int} {xs : List Int} (hx : xs ∈ xss) (hl : 6 < xs.length) : ¬ RightP xss h := fun ⟨_, h2, _, _, h5, _⟩ => by have := h5 xs hx; omega
theorem wrong_range {xss : List (List Int)} {h : Int} {xs : List Int} {b : Int} (hx : xs ∈ xss) (hb : b ∈ xs) (hr : b < 1 ∨ 999999 < b) : ¬ RightP xss h := fun ⟨_, _, _, _, _, h6, _⟩ => by have := h6 b (List.mem_flatten.2 ⟨xs, hx, hb⟩); omega
theorem wrong_twice {xss : List (List Int)} {h : Int} {i j : Nat} {b : Int} (hij : i < j) (hj : j < xss.length) (h1 : b ∈ xss[i]) (h2 : b ∈ xss[j]) : ¬ RightP xss h := fun hR => (List.pairwise_iff_getElem.1 hR.rows.2 i j (by omega) hj hij) b h1 b h2 rfl
section
variable {xss : List (List Int)} {h : Int}
theorem wrong_above {b : Int} (hn : rightB xss h = false) : aboveL xss h b = ([], 2) := by simp [aboveL, hn]
theorem wrong_room (hn : rightB xss h = false) : roomL xss h = (0, 2) := by simp [roomL, hn]
theorem wrong_shift {f t : Int} (hn : rightB xss h = false) : shiftR xss h f t = ([], 0, 2) := by simp [shiftR, hn]
theorem wrong_take {b : Int} (hn : rightB xss h = false) : takeR xss h b = ([], 0, 2) := by simp [takeR, hn]
theorem wrong_put {b s : Int} (hn : rightB xss h = false) : putR xss h b s = ([], 0, 2) := by simp [putR, hn]
theorem wrong_play {ms : List (Int × Int)} (hn : rightB xss h = false) : playR xss h ms = ([], 0, 0, 2) := by simp [playR, hn]
end
theorem yPlayP (w : World) {v vm : Value} {h h' e : Int} {k : Nat} {xss l : List (List Int)} {ms : List (Int × Int)} (hm : ∃ us, Mat w v us xss) (hms : Moves w vm ms) (hml : ms.length ≤ 9223372036854775807) (hl : xss.length < 1000000) (hx : ∀ xs ∈ xss, xs.length < 1000000) (hp : playR xss h ms = (l, h', k, e)) :
    Calls Try.prog 31 #[.agg #[v, .int .i64 h], vm] w (Ret fun r w' => Ext w w' ∧ ∃ u, r = .tuple #[.agg #[u, .int .i64 h'], .int .i64 (k : Nat), .int .i64 e] ∧ YO w w' u h' l) := by
  have := yPlayE w (h := h) hm hms hml hl hx; rw [hp] at this; exact this

set_option maxHeartbeats 3200000 in
theorem yardWrong (w : World) {vl : Value} {st ht way : Nat} {b : Int} {ls : List Nat} (hl : U8s w vl ls) (hll : ls.length ≤ 9223372036854775807) (hls : ∀ x ∈ ls, x < 256) :
    Calls Try.prog 9 #[.int .u8 st, .int .u8 ht, vl, .int .u8 way, .int .i64 b] w (Ret fun r w' => Ext w w' ∧ r = .bool true) := by
  have hn1 : 1 + st % 6 ≤ 6 := by omega
  have hH1 : 1 + ht % 6 ≤ 6 := by omega
  obtain ⟨H, hHd⟩ : ∃ H, 1 + ht % 6 = H := ⟨_, rfl⟩
  obtain ⟨n0, hnd⟩ : ∃ n, 1 + st % 6 = n := ⟨_, rfl⟩
  rw [hHd] at hH1
  rw [hnd] at hn1
  refine calls_E (args := [.int .u8 st, .int .u8 ht, vl, .int .u8 way, .int .i64 b]) 166 Try.func9 rfl rfl (by simp) ?_
  have hE : Ext w w := Upd.refl w
  refine E.seq ?_
  refine E.regionP rfl ?_  -- region 0
  refine R.assign ?_  -- 10 := assign ('const', ('bool', ('false',)))
  refine R.nil ?_
  refine E.seq ?_
  refine E.seq ?_
  refine E.regionP rfl ?_  -- region 1
  refine R.callE0 ent19 (awake _)  nofun ?_  -- 32 := call {'callee': ('value', ('func', 19)), 'args': [], 'argTypes': []}
  rintro v32 w1 hx1 rfl
  replace hE := hE.ext hx1
  refine R.not rfl ?_  -- 33 := unOp ('not',) 4 ('tmp', 32)
  refine R.nil ?_
  refine E.condF rfl ?_  -- cond t33
  refine E.skip ?_
  refine E.seq ?_
  refine E.regionP rfl ?_  -- region 3
  refine R.move ?_  -- 34 := move ('tmp', 0)
  refine R.move ?_  -- 35 := move ('tmp', 1)
  refine R.move ?_  -- 36 := move ('tmp', 2)
  refine R.callE3 ent22 (madeE _ (hl.ext hE) hll hls hnd hHd) rfl rfl rfl nofun ?_  -- 37 := call {'callee': ('value', ('func', 22)), 'args': [('tmp', 34), ('tmp', 35), ('tmp', 36)], 'argTypes': [5, 5, 33]}
  rintro v37 w2 hx2 ⟨u37, us37, xss, rfl, hM37, hP37⟩
  have hz37 := hE.size
  replace hE := hE.ext hx2
  have hM := hM37.mo
  have hf37 := hM37.f.mono hz37
  clear hM37
  have hR : RightP xss (H : Int) := hP37.right (by omega) (by omega) (by omega) (by omega) (by omega)
  have hlen := hP37.len
  refine R.alloc t24 nofun ?_  -- 11 := alloc 24
  intro b11 w3 hb11 hx3 hB11
  replace hb11 := Nat.le_trans hE.size hb11
  replace hM := hM.ext hx3
  replace hE := hE.ext hx3
  replace hB11 : Blk _ b11 24 #[.slice none 0 0, .int .i64 0] := hB11
  refine R.storeA t24 hB11 rfl rfl rfl rfl (ones2 hM.outer.one rfl) nofun ?_  -- None := store 24 ('tmp', 11) ('tmp', 37)
  intro w4 hU4 hs4 hN4
  replace hM := hM.upT hU4 hB11 (by decide)
  replace hE := hE.own hU4 hb11
  replace hB11 : Blk _ b11 24 #[u37, .int .i64 H] := hN4
  clear hN4
  obtain ⟨x, y, bb, hfv, hbb⟩ : ∃ (x y : Int) (bb : Bool), findV xss b = .tuple #[.int .i64 x, .int .i64 y, .bool bb] ∧ (bb = false → findL xss b = none) := by
    rcases hF : findL xss b with _ | ⟨p, q⟩
    · exact ⟨0, 0, false, by simp [findV, hF], fun _ => rfl⟩
    · exact ⟨p, q, true, by simp [findV, hF], nofun⟩
  refine R.nil ?_
  refine E.seq ?_
  refine E.seq ?_
  refine E.regionP rfl ?_  -- region 4
  refine R.loadA t24 hB11 rfl rfl rfl trivial ?_  -- 39 := load 24 ('tmp', 11)
  refine R.move ?_  -- 40 := move ('tmp', 4)
  refine R.callE2 ent23 (findE _ ⟨_, hM.mat⟩ hR.l6 hR.x6 hfv) rfl rfl nofun ?_  -- 41 := call {'callee': ('value', ('func', 23)), 'args': [('tmp', 39), ('tmp', 40)], 'argTypes': [24, 3]}
  rintro v41 w5 hx5 rfl
  replace hM := hM.ext hx5
  replace hB11 := hB11.ext hx5
  replace hE := hE.ext hx5
  refine R.move ?_  -- 38 := move ('tmp', 41)
  refine R.extract rfl rfl ?_  -- 42 := extract ('tmp', 38) 0
  refine R.extract rfl rfl ?_  -- 43 := extract ('tmp', 38) 1
  refine R.extract rfl rfl ?_  -- 44 := extract ('tmp', 38) 2
  refine R.assign ?_  -- 12 := assign ('tmp', 42)
  refine R.assign ?_  -- 13 := assign ('tmp', 43)
  refine R.assign ?_  -- 14 := assign ('tmp', 44)
  refine R.nil ?_
  refine E.seq ?_
  refine E.regionP rfl ?_  -- region 5
  refine R.move ?_  -- 45 := move ('tmp', 14)
  refine R.not rfl ?_  -- 46 := unOp ('not',) 4 ('tmp', 45)
  refine R.nil ?_
  refine E.cutM (fun e wr => Ext w wr ∧ MO wr u37 us37 xss ∧ Blk wr b11 24 #[u37, .int .i64 H] ∧ Has e [(3, .int .u8 (way : Nat)), (4, .int .i64 b), (11, .pointer (some ⟨b11, 0, none⟩))]) ?_ ?_  -- cut mt46
  · refine E.cond rfl (fun hc46 => ?_) (fun hc46 => ?_)  -- cond t46
    · have hF := hbb (by simpa using hc46)
      refine E.seq ?_
      refine E.regionP rfl ?_  -- region 6
      refine R.loadA t24 hB11 rfl rfl rfl trivial ?_  -- 48 := load 24 ('tmp', 11)
      refine R.move ?_  -- 49 := move ('tmp', 4)
      refine R.callE2 ent24 (aboveP _ (l := []) (e := 6) ⟨_, hM.mat⟩ hR.l6 hR.x6 (by simp [aboveL, hR.b, hF])) rfl rfl nofun ?_  -- 50 := call {'callee': ('value', ('func', 24)), 'args': [('tmp', 48), ('tmp', 49)], 'argTypes': [24, 3]}
      rintro v50 w6 hx6 ⟨u50, rfl, hS50, hf50⟩
      replace hM := hM.ext hx6
      replace hB11 := hB11.ext hx6
      replace hE := hE.ext hx6
      refine R.move ?_  -- 47 := move ('tmp', 50)
      refine R.extract rfl rfl ?_  -- 51 := extract ('tmp', 47) 0
      refine R.extract rfl rfl ?_  -- 52 := extract ('tmp', 47) 1
      refine R.assign ?_  -- 15 := assign ('tmp', 51)
      refine R.assign ?_  -- 16 := assign ('tmp', 52)
      refine R.nil ?_
      refine E.seq ?_
      refine E.regionP rfl ?_  -- region 7
      refine R.loadA t24 hB11 rfl rfl rfl trivial ?_  -- 54 := load 24 ('tmp', 11)
      refine R.move ?_  -- 55 := move ('tmp', 4)
      refine R.callE2 ent25 (yTakeP _ (l := []) (h' := 0) (e := 6) ⟨_, hM.mat⟩ hR.l6 hR.x6 (by simp [takeR, hR.b, hF])) rfl rfl nofun ?_  -- 56 := call {'callee': ('value', ('func', 25)), 'args': [('tmp', 54), ('tmp', 55)], 'argTypes': [24, 3]}
      rintro v56 w7 hx7 ⟨u56, rfl, hY56⟩
      replace hM := hM.ext hx7
      replace hS50 := hS50.ext hx7
      replace hB11 := hB11.ext hx7
      replace hE := hE.ext hx7
      refine R.move ?_  -- 53 := move ('tmp', 56)
      refine R.extract rfl rfl ?_  -- 57 := extract ('tmp', 53) 0
      refine R.extract rfl rfl ?_  -- 58 := extract ('tmp', 53) 1
      refine R.alloc t24 nofun ?_  -- 17 := alloc 24
      intro b17 w8 hb17 hx8 hB17
      have ne11_17 : b11 ≠ b17 := by have := hB11.lt; omega
      replace hb17 := Nat.le_trans hE.size hb17
      replace hM := hM.ext hx8
      replace hS50 := hS50.ext hx8
      replace hY56 := hY56.ext hx8
      replace hB11 := hB11.ext hx8
      replace hE := hE.ext hx8
      replace hB17 : Blk _ b17 24 #[.slice none 0 0, .int .i64 0] := hB17
      refine R.storeA t24 hB17 rfl rfl rfl rfl (ones2 hY56.one' rfl) nofun ?_  -- None := store 24 ('tmp', 17) ('tmp', 57)
      intro w9 hU9 hs9 hN9
      replace hM := hM.upT hU9 hB17 (by decide)
      replace hS50 := hS50.upT hU9 hB17 (by decide)
      replace hY56 := hY56.upT hU9 hB17 (by decide)
      replace hB11 := hB11.up hU9 (fun h => ne11_17 h)
      replace hE := hE.own hU9 hb17
      replace hB17 : Blk _ b17 24 #[u56, .int .i64 0] := hN9
      clear hN9
      refine R.assign ?_  -- 18 := assign ('tmp', 58)
      refine R.nil ?_
      refine E.seq ?_
      refine E.regionP rfl ?_  -- region 8
      refine R.move ?_  -- 59 := move ('tmp', 16)
      refine R.neq (b := false) rfl rfl (by simp) ?_  -- 60 := binOp ('neq',) 38 ('tmp', 59) ('const', ('int', ('i64',), 6)) 38
      refine R.move ?_  -- 61 := move ('tmp', 60)
      refine R.gT rfl rfl ?_
      refine R.move ?_  -- 62 := move ('tmp', 18)
      refine R.gT rfl rfl ?_
      refine R.neq (b := false) rfl rfl (by simp) ?_  -- 63 := binOp ('neq',) 38 ('tmp', 62) ('const', ('int', ('i64',), 6)) 38
      refine R.pickF rfl ?_  -- 64 := pick ('tmp', 61) ('const', ('bool', ('true',))) ('tmp', 63)
      refine R.nil ?_
      refine E.condF rfl ?_  -- cond t64
      refine E.skip ?_
      exact ⟨hE, hM, hB11, rfl, rfl, rfl, trivial⟩  -- cut end 0 path T
    · refine E.skip ?_
      exact ⟨hE, hM, hB11, rfl, rfl, rfl, trivial⟩  -- cut end 1 path F
  · rintro e wr ⟨hE, hM, hB11, hH⟩
    obtain ⟨e, rfl⟩ := hH.ex
    clear hH
    refine E.seq ?_
    refine E.regionP rfl ?_  -- region 10
    refine R.fld fa24_0 rfl ?_  -- 65 := fieldAddr 24 ('tmp', 11) 0
    refine R.loadB t22 hB11 rfl rfl rfl trivial ?_  -- 66 := load 22 ('tmp', 65)
    refine R.buildSlice [.int .i64 900] Try.underlying35 t3 rfl rfl (by simp [Value.cells]) (by simp) nofun ?_  -- 67 := buildSlice 35 1 [('tup', 0, ('const', ('int', ('i64',), 900)))]
    intro b67 w10 hb67 hx10 hB67 hS67
    replace hb67 := Nat.le_trans hE.size hb67
    replace hM := hM.ext hx10
    replace hB11 := hB11.ext hx10
    replace hE := hE.ext hx10
    refine R.buildSlice [.slice (some ⟨b67, 0, none⟩) 1 1] Try.underlying22 t35 rfl rfl (by simp [Value.cells]) (by simp) nofun ?_  -- 68 := buildSlice 22 1 [('tup', 0, ('tmp', 67))]
    intro b68 w11 hb68 hx11 hB68 hS68
    replace hb68 := Nat.le_trans hE.size hb68
    replace hM := hM.ext hx11
    replace hS67 := hS67.ext hx11
    replace hB11 := hB11.ext hx11
    replace hE := hE.ext hx11
    refine R.append (m := 1) Try.underlying22 Try.underlying22 t35 (by decide) rfl hM.outer hS68.row (by simp [cellsOf, Value.cells, Value.oneCell']) rfl rfl (by omega) (by omega) nofun ?_  -- 69 := call {'callee': ('builtin', ('append',)), 'args': [('tmp', 66), ('tmp', 68)], 'argTypes': [22, 22]}
    intro v69 w69 hU69 hS69 hd69
    have hf69 := Fresh.app' hE.size hf37 hd69
    replace hB11 := hB11.upS hU69 hM.outer (by decide)
    replace hE := hE.app hU69 hf37
    replace hM := MO.snoc (xs := [900]) hM hS67 hU69 (by simpa [cellsOf, Value.cells] using hS69)
    have hxs : ∀ xs ∈ xss ++ [[900]], xs.length < 1000000 := fun xs hx => by
      rcases List.mem_append.1 hx with hx | hx
      · exact hR.x6 xs hx
      · simp at hx; subst hx; simp
    clear hS67 hS68 hS69 hd69
    refine R.fld fa24_0 rfl ?_  -- 70 := fieldAddr 24 ('tmp', 11) 0
    refine R.store t22 hB11 rfl rfl (hM.outer.one) (by simp) nofun ?_  -- None := store 22 ('tmp', 70) ('tmp', 69)
    intro w12 hU12 hs12 hN12
    replace hM := hM.upT hU12 hB11 (by decide)
    replace hE := hE.own hU12 hb11
    replace hB11 : Blk _ b11 24 #[v69, .int .i64 H] := hN12
    clear hN12
    refine R.nil ?_
    refine E.seq ?_
    refine E.seq ?_
    refine E.forget [(3, .int .u8 (way : Nat)), (4, .int .i64 b), (11, .pointer (some ⟨b11, 0, none⟩))] ⟨rfl, rfl, rfl, trivial⟩ (fun e => ?_)
    refine E.regionP rfl ?_  -- region 11
    refine R.move ?_  -- 71 := move ('tmp', 3)
    refine remU (n := 6) rfl rfl (by omega) ?_  -- 72 := binOp ('rem',) 5 ('tmp', 71) ('const', ('int', ('u8',), 6)) 5
    refine R.nil ?_
    refine E.cutM (fun e wr => ∃ (ov : Value) (us1 : List Value) (ys : List (List Int)) (h1 : Int), Ext w wr ∧ MO wr ov us1 ys ∧ ys.length < 1000000 ∧ (∀ xs ∈ ys, xs.length < 1000000) ∧ rightB ys h1 = false ∧ Blk wr b11 24 #[ov, .int .i64 h1] ∧ Has e [(11, .pointer (some ⟨b11, 0, none⟩))]) ?_ ?_  -- cut m0
    · refine E.block ?_
      refine E.seq ?_
      refine E.regionP rfl ?_  -- region 13
      refine R.eql rfl rfl rfl ?_  -- 81 := binOp ('eql',) 5 ('tmp', 72) ('const', ('int', ('u8',), 0)) 5
      refine R.assign ?_  -- 80 := assign ('tmp', 81)
      refine R.nil ?_
      refine E.cond rfl (fun hc80 => ?_) (fun hc80 => ?_)  -- cond t80
      · replace hc80 := dT hc80
        refine E.regionP rfl ?_  -- region 14
        refine R.fld fa24_1 rfl ?_  -- 82 := fieldAddr 24 ('tmp', 11) 1
        refine R.store t3 hB11 rfl rfl (rfl) (by simp) nofun ?_  -- None := store 3 ('tmp', 82) ('const', ('int', ('i64',), 0))
        intro w13 hU13 hs13 hN13
        replace hM := hM.upT hU13 hB11 (by decide)
        replace hE := hE.own hU13 hb11
        replace hB11 : Blk _ b11 24 #[v69, .int .i64 0] := hN13
        clear hN13
        refine R.nil ?_
        exact ⟨_, _, _, _, hE, hM, by simp only [List.length_append, List.length_cons, List.length_nil]; omega, hxs, rightB_false.2 (fun hR => by have := hR.1; omega), hB11, rfl, trivial⟩  -- cut end 2 path mT
      · replace hc80 := dF hc80
        refine E.seq ?_
        refine E.regionP rfl ?_  -- region 15
        refine R.eql rfl rfl rfl ?_  -- 84 := binOp ('eql',) 5 ('tmp', 72) ('const', ('int', ('u8',), 1)) 5
        refine R.assign ?_  -- 83 := assign ('tmp', 84)
        refine R.nil ?_
        refine E.cond rfl (fun hc83 => ?_) (fun hc83 => ?_)  -- cond t83
        · replace hc83 := dT hc83
          refine E.regionP rfl ?_  -- region 16
          refine R.fld fa24_1 rfl ?_  -- 85 := fieldAddr 24 ('tmp', 11) 1
          refine R.store t3 hB11 rfl rfl (rfl) (by simp) nofun ?_  -- None := store 3 ('tmp', 85) ('const', ('int', ('i64',), 7))
          intro w14 hU14 hs14 hN14
          replace hM := hM.upT hU14 hB11 (by decide)
          replace hE := hE.own hU14 hb11
          replace hB11 : Blk _ b11 24 #[v69, .int .i64 7] := hN14
          clear hN14
          refine R.nil ?_
          exact ⟨_, _, _, _, hE, hM, by simp only [List.length_append, List.length_cons, List.length_nil]; omega, hxs, rightB_false.2 (fun hR => by have := hR.2.1; omega), hB11, rfl, trivial⟩  -- cut end 3 path mFT
        · replace hc83 := dF hc83
          refine E.seq ?_
          refine E.regionP rfl ?_  -- region 17
          refine R.eql rfl rfl rfl ?_  -- 87 := binOp ('eql',) 5 ('tmp', 72) ('const', ('int', ('u8',), 2)) 5
          refine R.assign ?_  -- 86 := assign ('tmp', 87)
          refine R.nil ?_
          refine E.cond rfl (fun hc86 => ?_) (fun hc86 => ?_)  -- cond t86
          · replace hc86 := dT hc86
            refine E.regionP rfl ?_  -- region 18
            refine R.fld fa24_0 rfl ?_  -- 88 := fieldAddr 24 ('tmp', 11) 0
            refine R.loadB t22 hB11 rfl rfl rfl trivial ?_  -- 89 := load 22 ('tmp', 88)
            refine R.buildSlice [.int .i64 1, .int .i64 2, .int .i64 3, .int .i64 4, .int .i64 5, .int .i64 6, .int .i64 7] Try.underlying35 t3 rfl rfl (by simp [Value.cells]) (by simp) nofun ?_  -- 90 := buildSlice 35 7 [('tup', 0, ('const', ('int', ('i64',), 1))), ('tup', 1, ('const', ('int', ('i64',), 2))), ('tup', 2, ('const', ('int', ('i64',), 3))), ('tup', 3, ('const', ('int', ('i64',), 4))), ('tup', 4, ('const', ('int', ('i64',), 5))), ('tup', 5, ('const', ('int', ('i64',), 6))), ('tup', 6, ('const', ('int', ('i64',), 7)))]
            intro b90 w15 hb90 hx15 hB90 hS90
            replace hb90 := Nat.le_trans hE.size hb90
            replace hM := hM.ext hx15
            replace hB11 := hB11.ext hx15
            replace hE := hE.ext hx15
            refine R.ix (m := 0) Try.underlying22 t35 (by decide) hM.row rfl rfl (by simp) ?_  -- 91 := indexAddr 22 ('tmp', 89) ('const', ('int', ('i64',), 0))
            refine R.stE (j := 0) (u := (.slice (some ⟨b90, 0, none⟩) 7 7)) t35 hM.outer rfl rfl rfl (by simp) nofun ?_  -- None := store 35 ('tmp', 91) ('tmp', 90)
            intro w91 hU91 hs91 hO91
            have hSx : SInts _ (.slice (some ⟨b90, 0, none⟩) 7 7) [1, 2, 3, 4, 5, 6, 7] := hS90
            replace hB11 := hB11.upS hU91 hM.outer (by decide)
            replace hE := hE.app hU91 hf69
            replace hM := MO.set (xs := [1, 2, 3, 4, 5, 6, 7]) hM (by simp) hSx hU91 hO91
            clear hO91 hS90 hSx
            refine R.nil ?_
            exact ⟨_, _, _, _, hE, hM, by simp only [List.length_set, List.length_append, List.length_cons, List.length_nil]; omega, fun xs hx => by rcases List.mem_or_eq_of_mem_set hx with hx | rfl; (exact hxs xs hx); simp, rightB_false.2 (wrong_long (xs := [1, 2, 3, 4, 5, 6, 7]) (by rw [List.mem_iff_getElem]; exact ⟨0, by simp, by rw [List.getElem_set_self]⟩) (by simp)), hB11, rfl, trivial⟩  -- cut end 4 path mFFT
          · replace hc86 := dF hc86
            refine E.seq ?_
            refine E.regionP rfl ?_  -- region 19
            refine R.eql rfl rfl rfl ?_  -- 93 := binOp ('eql',) 5 ('tmp', 72) ('const', ('int', ('u8',), 3)) 5
            refine R.assign ?_  -- 92 := assign ('tmp', 93)
            refine R.nil ?_
            refine E.cond rfl (fun hc92 => ?_) (fun hc92 => ?_)  -- cond t92
            · replace hc92 := dT hc92
              refine E.regionP rfl ?_  -- region 20
              refine R.fld fa24_0 rfl ?_  -- 94 := fieldAddr 24 ('tmp', 11) 0
              refine R.loadB t22 hB11 rfl rfl rfl trivial ?_  -- 95 := load 22 ('tmp', 94)
              refine R.buildSlice [.int .i64 900] Try.underlying35 t3 rfl rfl (by simp [Value.cells]) (by simp) nofun ?_  -- 96 := buildSlice 35 1 [('tup', 0, ('const', ('int', ('i64',), 900)))]
              intro b96 w16 hb96 hx16 hB96 hS96
              replace hb96 := Nat.le_trans hE.size hb96
              replace hM := hM.ext hx16
              replace hB11 := hB11.ext hx16
              replace hE := hE.ext hx16
              refine R.ix (m := 0) Try.underlying22 t35 (by decide) hM.row rfl rfl (by simp) ?_  -- 97 := indexAddr 22 ('tmp', 95) ('const', ('int', ('i64',), 0))
              refine R.stE (j := 0) (u := (.slice (some ⟨b96, 0, none⟩) 1 1)) t35 hM.outer rfl rfl rfl (by simp) nofun ?_  -- None := store 35 ('tmp', 97) ('tmp', 96)
              intro w91 hU91 hs91 hO91
              have hSx : SInts _ (.slice (some ⟨b96, 0, none⟩) 1 1) [900] := hS96
              replace hB11 := hB11.upS hU91 hM.outer (by decide)
              replace hE := hE.app hU91 hf69
              replace hM := MO.set (xs := [900]) hM (by simp) hSx hU91 hO91
              clear hO91 hS96 hSx
              refine R.nil ?_
              exact ⟨_, _, _, _, hE, hM, by simp only [List.length_set, List.length_append, List.length_cons, List.length_nil]; omega, fun xs hx => by rcases List.mem_or_eq_of_mem_set hx with hx | rfl; (exact hxs xs hx); simp, rightB_false.2 (wrong_twice (i := 0) (j := xss.length) (b := 900) (by omega) (by simp) (by rw [List.getElem_set_self]; simp) (by rw [List.getElem_set_ne (by omega)]; simp)), hB11, rfl, trivial⟩  -- cut end 5 path mFFFT
            · replace hc92 := dF hc92
              refine E.seq ?_
              refine E.regionP rfl ?_  -- region 21
              refine R.eql rfl rfl rfl ?_  -- 99 := binOp ('eql',) 5 ('tmp', 72) ('const', ('int', ('u8',), 4)) 5
              refine R.assign ?_  -- 98 := assign ('tmp', 99)
              refine R.nil ?_
              refine E.cond rfl (fun hc98 => ?_) (fun hc98 => ?_)  -- cond t98
              · replace hc98 := dT hc98
                refine E.regionW (fun c x => x < w12.heap.size ∧ (c = false → vblk v69 ≠ some x)) [] mixed rfl (by kernel_rfl) ?_  -- region 22
                intro w17 hx17 hh17
                replace hM := hM.ext hx17
                replace hB11 := hB11.ext hx17
                replace hE := hE.ext hx17
                have hEs : Ext w17 w17 := Upd.refl _
                have hS0 := hx17.size
                have hSB : ∀ b, b < w17.heap.size → b < w12.heap.size ∧ (true = false → (fun x => vblk v69 ≠ some x) b) := fun b hb => ⟨by rw [hh17] at hb; exact hb, nofun⟩
                have hSA : ∀ b, b < w17.heap.size → (fun x => vblk v69 ≠ some x) b → b < w12.heap.size ∧ (false = false → (fun x => vblk v69 ≠ some x) b) := fun b hb h => ⟨by rw [hh17] at hb; exact hb, fun _ => h⟩
                have hMs := hM
                have hB11s := hB11
                refine R.fld fa24_0 rfl ?_  -- 100 := fieldAddr 24 ('tmp', 11) 0
                refine R.loadB t22 (hB11s.ext hEs) rfl rfl rfl (hSA b11 hB11s.lt (hB11.ne_vblk hM.outer (by decide))) ?_  -- 101 := load 22 ('tmp', 100)
                refine R.move ?_  -- 102 := move ('tmp', 4)
                refine R.callE2 ent21 (pick _ (by omega)) rfl rfl (fun _ _ hb => Nat.lt_of_lt_of_le hb.1 (Nat.le_trans hS0 hEs.size)) ?_  -- 103 := call {'callee': ('value', ('func', 21)), 'args': [('tmp', 102), ('const', ('int', ('i64',), 1000000))], 'argTypes': [3, 3]}
                rintro v103 w18 hx18 rfl
                replace hM := hM.ext hx18
                replace hB11 := hB11.ext hx18
                replace hE := hE.ext hx18
                replace hEs := hEs.ext hx18
                have hp1 := pickL_range (a := b) (n := 1000000) (by omega)
                refine R.neg rfl (by omega) (by omega) ?_  -- 104 := unOp ('neg',) 3 ('tmp', 103)
                refine R.buildSlice [.int .i64 (-(pickL b 1000000))] Try.underlying35 t3 rfl rfl (by simp [Value.cells]) (by simp) (fun _ _ _ hb => Nat.lt_of_lt_of_le hb.1 (Nat.le_trans hS0 hEs.size)) ?_  -- 105 := buildSlice 35 1 [('tup', 0, ('tmp', 104))]
                intro b105 w19 hb105 hx19 hB105 hS105
                replace hb105 := Nat.le_trans hE.size hb105
                replace hM := hM.ext hx19
                replace hB11 := hB11.ext hx19
                replace hE := hE.ext hx19
                replace hEs := hEs.ext hx19
                refine R.ix (m := 0) Try.underlying22 t35 (by decide) hM.row rfl rfl (by simp) ?_  -- 106 := indexAddr 22 ('tmp', 101) ('const', ('int', ('i64',), 0))
                refine R.stE (j := 0) (u := (.slice (some ⟨b105, 0, none⟩) 1 1)) t35 hM.outer rfl rfl rfl (by simp) (fun _ x hx h => h.2 rfl hx) ?_  -- None := store 35 ('tmp', 106) ('tmp', 105)
                intro w91 hU91 hs91 hO91
                have hSx : SInts _ (.slice (some ⟨b105, 0, none⟩) 1 1) [-(pickL b 1000000)] := hS105
                replace hB11 := hB11.upS hU91 hM.outer (by decide)
                replace hE := hE.app hU91 hf69
                replace hM := MO.set (xs := [-(pickL b 1000000)]) hM (by simp) hSx hU91 hO91
                clear hO91 hS105 hSx
                refine R.nil ?_
                exact ⟨_, _, _, _, hE, hM, by simp only [List.length_set, List.length_append, List.length_cons, List.length_nil]; omega, fun xs hx => by rcases List.mem_or_eq_of_mem_set hx with hx | rfl; (exact hxs xs hx); simp, rightB_false.2 (wrong_range (xs := [-(pickL b 1000000)]) (b := -(pickL b 1000000)) (by rw [List.mem_iff_getElem]; exact ⟨0, by simp, by rw [List.getElem_set_self]⟩) (by simp) (by omega)), hB11, rfl, trivial⟩  -- cut end 6 path mFFFFT
              · replace hc98 := dF hc98
                refine E.regionW (fun c x => x < w12.heap.size ∧ (c = false → vblk v69 ≠ some x)) [] mixed rfl (by kernel_rfl) ?_  -- region 12
                intro w20 hx20 hh20
                replace hM := hM.ext hx20
                replace hB11 := hB11.ext hx20
                replace hE := hE.ext hx20
                have hEs : Ext w20 w20 := Upd.refl _
                have hS0 := hx20.size
                have hSB : ∀ b, b < w20.heap.size → b < w12.heap.size ∧ (true = false → (fun x => vblk v69 ≠ some x) b) := fun b hb => ⟨by rw [hh20] at hb; exact hb, nofun⟩
                have hSA : ∀ b, b < w20.heap.size → (fun x => vblk v69 ≠ some x) b → b < w12.heap.size ∧ (false = false → (fun x => vblk v69 ≠ some x) b) := fun b hb h => ⟨by rw [hh20] at hb; exact hb, fun _ => h⟩
                have hMs := hM
                have hB11s := hB11
                refine R.fld fa24_0 rfl ?_  -- 73 := fieldAddr 24 ('tmp', 11) 0
                refine R.loadB t22 (hB11s.ext hEs) rfl rfl rfl (hSA b11 hB11s.lt (hB11.ne_vblk hM.outer (by decide))) ?_  -- 74 := load 22 ('tmp', 73)
                refine R.move ?_  -- 75 := move ('tmp', 4)
                refine R.callE2 ent21 (pick _ (by omega)) rfl rfl (fun _ _ hb => Nat.lt_of_lt_of_le hb.1 (Nat.le_trans hS0 hEs.size)) ?_  -- 76 := call {'callee': ('value', ('func', 21)), 'args': [('tmp', 75), ('const', ('int', ('i64',), 1000))], 'argTypes': [3, 3]}
                rintro v76 w21 hx21 rfl
                replace hM := hM.ext hx21
                replace hB11 := hB11.ext hx21
                replace hE := hE.ext hx21
                replace hEs := hEs.ext hx21
                have hp1 := pickL_range (a := b) (n := 1000) (by omega)
                refine R.add rfl rfl (by omega) (by omega) ?_  -- 77 := binOp ('add',) 3 ('const', ('int', ('i64',), 1000000)) ('tmp', 76) 3
                refine R.buildSlice [.int .i64 (1000000 + pickL b 1000)] Try.underlying35 t3 rfl rfl (by simp [Value.cells]) (by simp) (fun _ _ _ hb => Nat.lt_of_lt_of_le hb.1 (Nat.le_trans hS0 hEs.size)) ?_  -- 78 := buildSlice 35 1 [('tup', 0, ('tmp', 77))]
                intro b78 w22 hb78 hx22 hB78 hS78
                replace hb78 := Nat.le_trans hE.size hb78
                replace hM := hM.ext hx22
                replace hB11 := hB11.ext hx22
                replace hE := hE.ext hx22
                replace hEs := hEs.ext hx22
                refine R.ix (m := 0) Try.underlying22 t35 (by decide) hM.row rfl rfl (by simp) ?_  -- 79 := indexAddr 22 ('tmp', 74) ('const', ('int', ('i64',), 0))
                refine R.stE (j := 0) (u := (.slice (some ⟨b78, 0, none⟩) 1 1)) t35 hM.outer rfl rfl rfl (by simp) (fun _ x hx h => h.2 rfl hx) ?_  -- None := store 35 ('tmp', 79) ('tmp', 78)
                intro w91 hU91 hs91 hO91
                have hSx : SInts _ (.slice (some ⟨b78, 0, none⟩) 1 1) [1000000 + pickL b 1000] := hS78
                replace hB11 := hB11.upS hU91 hM.outer (by decide)
                replace hE := hE.app hU91 hf69
                replace hM := MO.set (xs := [1000000 + pickL b 1000]) hM (by simp) hSx hU91 hO91
                clear hO91 hS78 hSx
                refine R.nil ?_
                exact ⟨_, _, _, _, hE, hM, by simp only [List.length_set, List.length_append, List.length_cons, List.length_nil]; omega, fun xs hx => by rcases List.mem_or_eq_of_mem_set hx with hx | rfl; (exact hxs xs hx); simp, rightB_false.2 (wrong_range (xs := [1000000 + pickL b 1000]) (b := 1000000 + pickL b 1000) (by rw [List.mem_iff_getElem]; exact ⟨0, by simp, by rw [List.getElem_set_self]⟩) (by simp) (by omega)), hB11, rfl, trivial⟩  -- cut end 7 path mFFFFF
    · rintro e wr ⟨ov, us1, ys, h1, hE, hM, hyl, hyx, hn, hB11, hH⟩
      obtain ⟨e, rfl⟩ := hH.ex
      clear hH
      refine E.seq ?_
      refine E.regionP rfl ?_  -- region 23
      refine R.loadA t24 hB11 rfl rfl rfl trivial ?_  -- 108 := load 24 ('tmp', 11)
      refine R.callE2 ent24 (aboveP _ ⟨_, hM.mat⟩ hyl hyx (wrong_above hn)) rfl rfl nofun ?_  -- 109 := call {'callee': ('value', ('func', 24)), 'args': [('tmp', 108), ('const', ('int', ('i64',), 900))], 'argTypes': [24, 3]}
      rintro v109 w23 hx23 ⟨u109, rfl, hS109, hf109⟩
      replace hM := hM.ext hx23
      replace hB11 := hB11.ext hx23
      replace hE := hE.ext hx23
      refine R.move ?_  -- 107 := move ('tmp', 109)
      refine R.extract rfl rfl ?_  -- 110 := extract ('tmp', 107) 0
      refine R.extract rfl rfl ?_  -- 111 := extract ('tmp', 107) 1
      refine R.assign ?_  -- 19 := assign ('tmp', 110)
      refine R.assign ?_  -- 20 := assign ('tmp', 111)
      refine R.nil ?_
      refine E.seq ?_
      refine E.regionP rfl ?_  -- region 24
      refine R.loadA t24 hB11 rfl rfl rfl trivial ?_  -- 113 := load 24 ('tmp', 11)
      refine R.callE1 ent29 (roomP _ ⟨_, hM.mat⟩ hyl hyx (wrong_room hn)) rfl nofun ?_  -- 114 := call {'callee': ('value', ('func', 29)), 'args': [('tmp', 113)], 'argTypes': [24]}
      rintro v114 w24 hx24 rfl
      replace hM := hM.ext hx24
      replace hS109 := hS109.ext hx24
      replace hB11 := hB11.ext hx24
      replace hE := hE.ext hx24
      refine R.move ?_  -- 112 := move ('tmp', 114)
      refine R.extract rfl rfl ?_  -- 115 := extract ('tmp', 112) 0
      refine R.extract rfl rfl ?_  -- 116 := extract ('tmp', 112) 1
      refine R.assign ?_  -- 21 := assign ('tmp', 115)
      refine R.assign ?_  -- 22 := assign ('tmp', 116)
      refine R.nil ?_
      refine E.seq ?_
      refine E.regionP rfl ?_  -- region 25
      refine R.loadA t24 hB11 rfl rfl rfl trivial ?_  -- 118 := load 24 ('tmp', 11)
      refine R.build build30 rfl ?_  -- 119 := build 30 [('tup', 0, ('const', ('int', ('i64',), 0))), ('tup', 1, ('const', ('int', ('i64',), 1)))]
      refine R.callE2 ent36 (yShiftP _ ⟨_, hM.mat⟩ hyl hyx (wrong_shift hn)) rfl rfl nofun ?_  -- 120 := call {'callee': ('value', ('func', 36)), 'args': [('tmp', 118), ('tmp', 119)], 'argTypes': [24, 30]}
      rintro v120 w25 hx25 ⟨u120, rfl, hY120⟩
      replace hM := hM.ext hx25
      replace hS109 := hS109.ext hx25
      replace hB11 := hB11.ext hx25
      replace hE := hE.ext hx25
      refine R.move ?_  -- 117 := move ('tmp', 120)
      refine R.extract rfl rfl ?_  -- 121 := extract ('tmp', 117) 0
      refine R.extract rfl rfl ?_  -- 122 := extract ('tmp', 117) 1
      refine R.alloc t24 nofun ?_  -- 23 := alloc 24
      intro b23 w26 hb23 hx26 hB23
      have ne11_23 : b11 ≠ b23 := by have := hB11.lt; omega
      replace hb23 := Nat.le_trans hE.size hb23
      replace hM := hM.ext hx26
      replace hS109 := hS109.ext hx26
      replace hY120 := hY120.ext hx26
      replace hB11 := hB11.ext hx26
      replace hE := hE.ext hx26
      replace hB23 : Blk _ b23 24 #[.slice none 0 0, .int .i64 0] := hB23
      refine R.storeA t24 hB23 rfl rfl rfl rfl (ones2 hY120.one' rfl) nofun ?_  -- None := store 24 ('tmp', 23) ('tmp', 121)
      intro w27 hU27 hs27 hN27
      replace hM := hM.upT hU27 hB23 (by decide)
      replace hS109 := hS109.upT hU27 hB23 (by decide)
      replace hY120 := hY120.upT hU27 hB23 (by decide)
      replace hB11 := hB11.up hU27 (fun h => ne11_23 h)
      replace hE := hE.own hU27 hb23
      replace hB23 : Blk _ b23 24 #[u120, .int .i64 0] := hN27
      clear hN27
      refine R.assign ?_  -- 24 := assign ('tmp', 122)
      refine R.nil ?_
      refine E.seq ?_
      refine E.regionP rfl ?_  -- region 26
      refine R.loadA t24 hB11 rfl rfl rfl trivial ?_  -- 124 := load 24 ('tmp', 11)
      refine R.callE2 ent31 (yPlayP _ ⟨_, hM.mat⟩ (ms := []) (Row.nil _ _) (by simp) hyl hyx (wrong_play hn)) rfl rfl nofun ?_  -- 125 := call {'callee': ('value', ('func', 31)), 'args': [('tmp', 124), ('const', ('slice', ('none',), 0, 0))], 'argTypes': [24, 48]}
      rintro v125 w28 hx28 ⟨u125, rfl, hY125⟩
      replace hM := hM.ext hx28
      replace hS109 := hS109.ext hx28
      replace hY120 := hY120.ext hx28
      replace hB11 := hB11.ext hx28
      replace hB23 := hB23.ext hx28
      replace hE := hE.ext hx28
      refine R.move ?_  -- 123 := move ('tmp', 125)
      refine R.extract rfl rfl ?_  -- 126 := extract ('tmp', 123) 0
      refine R.extract rfl rfl ?_  -- 127 := extract ('tmp', 123) 1
      refine R.extract rfl rfl ?_  -- 128 := extract ('tmp', 123) 2
      refine R.alloc t24 nofun ?_  -- 25 := alloc 24
      intro b25 w29 hb25 hx29 hB25
      have ne11_25 : b11 ≠ b25 := by have := hB11.lt; omega
      have ne23_25 : b23 ≠ b25 := by have := hB23.lt; omega
      replace hb25 := Nat.le_trans hE.size hb25
      replace hM := hM.ext hx29
      replace hS109 := hS109.ext hx29
      replace hY120 := hY120.ext hx29
      replace hY125 := hY125.ext hx29
      replace hB11 := hB11.ext hx29
      replace hB23 := hB23.ext hx29
      replace hE := hE.ext hx29
      replace hB25 : Blk _ b25 24 #[.slice none 0 0, .int .i64 0] := hB25
      refine R.storeA t24 hB25 rfl rfl rfl rfl (ones2 hY125.one' rfl) nofun ?_  -- None := store 24 ('tmp', 25) ('tmp', 126)
      intro w30 hU30 hs30 hN30
      replace hM := hM.upT hU30 hB25 (by decide)
      replace hS109 := hS109.upT hU30 hB25 (by decide)
      replace hY120 := hY120.upT hU30 hB25 (by decide)
      replace hY125 := hY125.upT hU30 hB25 (by decide)
      replace hB11 := hB11.up hU30 (fun h => ne11_25 h)
      replace hB23 := hB23.up hU30 (fun h => ne23_25 h)
      replace hE := hE.own hU30 hb25
      replace hB25 : Blk _ b25 24 #[u125, .int .i64 0] := hN30
      clear hN30
      refine R.assign ?_  -- 26 := assign ('tmp', 127)
      refine R.assign ?_  -- 27 := assign ('tmp', 128)
      refine R.nil ?_
      refine E.seq ?_
      refine E.regionP rfl ?_  -- region 27
      refine R.loadA t24 hB11 rfl rfl rfl trivial ?_  -- 130 := load 24 ('tmp', 11)
      refine R.callE2 ent25 (yTakeP _ ⟨_, hM.mat⟩ hyl hyx (wrong_take hn)) rfl rfl nofun ?_  -- 131 := call {'callee': ('value', ('func', 25)), 'args': [('tmp', 130), ('const', ('int', ('i64',), 900))], 'argTypes': [24, 3]}
      rintro v131 w31 hx31 ⟨u131, rfl, hY131⟩
      replace hM := hM.ext hx31
      replace hS109 := hS109.ext hx31
      replace hY120 := hY120.ext hx31
      replace hY125 := hY125.ext hx31
      replace hB11 := hB11.ext hx31
      replace hB23 := hB23.ext hx31
      replace hB25 := hB25.ext hx31
      replace hE := hE.ext hx31
      refine R.move ?_  -- 129 := move ('tmp', 131)
      refine R.extract rfl rfl ?_  -- 132 := extract ('tmp', 129) 0
      refine R.extract rfl rfl ?_  -- 133 := extract ('tmp', 129) 1
      refine R.alloc t24 nofun ?_  -- 28 := alloc 24
      intro b28 w32 hb28 hx32 hB28
      have ne11_28 : b11 ≠ b28 := by have := hB11.lt; omega
      have ne23_28 : b23 ≠ b28 := by have := hB23.lt; omega
      have ne25_28 : b25 ≠ b28 := by have := hB25.lt; omega
      replace hb28 := Nat.le_trans hE.size hb28
      replace hM := hM.ext hx32
      replace hS109 := hS109.ext hx32
      replace hY120 := hY120.ext hx32
      replace hY125 := hY125.ext hx32
      replace hY131 := hY131.ext hx32
      replace hB11 := hB11.ext hx32
      replace hB23 := hB23.ext hx32
      replace hB25 := hB25.ext hx32
      replace hE := hE.ext hx32
      replace hB28 : Blk _ b28 24 #[.slice none 0 0, .int .i64 0] := hB28
      refine R.storeA t24 hB28 rfl rfl rfl rfl (ones2 hY131.one' rfl) nofun ?_  -- None := store 24 ('tmp', 28) ('tmp', 132)
      intro w33 hU33 hs33 hN33
      replace hM := hM.upT hU33 hB28 (by decide)
      replace hS109 := hS109.upT hU33 hB28 (by decide)
      replace hY120 := hY120.upT hU33 hB28 (by decide)
      replace hY125 := hY125.upT hU33 hB28 (by decide)
      replace hY131 := hY131.upT hU33 hB28 (by decide)
      replace hB11 := hB11.up hU33 (fun h => ne11_28 h)
      replace hB23 := hB23.up hU33 (fun h => ne23_28 h)
      replace hB25 := hB25.up hU33 (fun h => ne25_28 h)
      replace hE := hE.own hU33 hb28
      replace hB28 : Blk _ b28 24 #[u131, .int .i64 0] := hN33
      clear hN33
      refine R.assign ?_  -- 29 := assign ('tmp', 133)
      refine R.nil ?_
      refine E.seq ?_
      refine E.regionP rfl ?_  -- region 28
      refine R.loadA t24 hB11 rfl rfl rfl trivial ?_  -- 135 := load 24 ('tmp', 11)
      refine R.callE3 ent26 (yPutP _ ⟨_, hM.mat⟩ hyl hyx (wrong_put hn)) rfl rfl rfl nofun ?_  -- 136 := call {'callee': ('value', ('func', 26)), 'args': [('tmp', 135), ('const', ('int', ('i64',), 901)), ('const', ('int', ('i64',), 0))], 'argTypes': [24, 3, 3]}
      rintro v136 w34 hx34 ⟨u136, rfl, hY136⟩
      replace hM := hM.ext hx34
      replace hS109 := hS109.ext hx34
      replace hY120 := hY120.ext hx34
      replace hY125 := hY125.ext hx34
      replace hY131 := hY131.ext hx34
      replace hB11 := hB11.ext hx34
      replace hB23 := hB23.ext hx34
      replace hB25 := hB25.ext hx34
      replace hB28 := hB28.ext hx34
      replace hE := hE.ext hx34
      refine R.move ?_  -- 134 := move ('tmp', 136)
      refine R.extract rfl rfl ?_  -- 137 := extract ('tmp', 134) 0
      refine R.extract rfl rfl ?_  -- 138 := extract ('tmp', 134) 1
      refine R.alloc t24 nofun ?_  -- 30 := alloc 24
      intro b30 w35 hb30 hx35 hB30
      have ne11_30 : b11 ≠ b30 := by have := hB11.lt; omega
      have ne23_30 : b23 ≠ b30 := by have := hB23.lt; omega
      have ne25_30 : b25 ≠ b30 := by have := hB25.lt; omega
      have ne28_30 : b28 ≠ b30 := by have := hB28.lt; omega
      replace hb30 := Nat.le_trans hE.size hb30
      replace hM := hM.ext hx35
      replace hS109 := hS109.ext hx35
      replace hY120 := hY120.ext hx35
      replace hY125 := hY125.ext hx35
      replace hY131 := hY131.ext hx35
      replace hY136 := hY136.ext hx35
      replace hB11 := hB11.ext hx35
      replace hB23 := hB23.ext hx35
      replace hB25 := hB25.ext hx35
      replace hB28 := hB28.ext hx35
      replace hE := hE.ext hx35
      replace hB30 : Blk _ b30 24 #[.slice none 0 0, .int .i64 0] := hB30
      refine R.storeA t24 hB30 rfl rfl rfl rfl (ones2 hY136.one' rfl) nofun ?_  -- None := store 24 ('tmp', 30) ('tmp', 137)
      intro w36 hU36 hs36 hN36
      replace hM := hM.upT hU36 hB30 (by decide)
      replace hS109 := hS109.upT hU36 hB30 (by decide)
      replace hY120 := hY120.upT hU36 hB30 (by decide)
      replace hY125 := hY125.upT hU36 hB30 (by decide)
      replace hY131 := hY131.upT hU36 hB30 (by decide)
      replace hY136 := hY136.upT hU36 hB30 (by decide)
      replace hB11 := hB11.up hU36 (fun h => ne11_30 h)
      replace hB23 := hB23.up hU36 (fun h => ne23_30 h)
      replace hB25 := hB25.up hU36 (fun h => ne25_30 h)
      replace hB28 := hB28.up hU36 (fun h => ne28_30 h)
      replace hE := hE.own hU36 hb30
      replace hB30 : Blk _ b30 24 #[u136, .int .i64 0] := hN36
      clear hN36
      refine R.assign ?_  -- 31 := assign ('tmp', 138)
      refine R.nil ?_
      refine E.seq ?_
      refine E.regionP rfl ?_  -- region 29
      refine R.loadA t24 hB11 rfl rfl rfl trivial ?_  -- 139 := load 24 ('tmp', 11)
      refine R.callE1 ent27 (rightP _ ⟨_, hM.mat⟩ hyl hyx hn) rfl nofun ?_  -- 140 := call {'callee': ('value', ('func', 27)), 'args': [('tmp', 139)], 'argTypes': [24]}
      rintro v140 w37 hx37 rfl
      replace hM := hM.ext hx37
      replace hS109 := hS109.ext hx37
      replace hY120 := hY120.ext hx37
      replace hY125 := hY125.ext hx37
      replace hY131 := hY131.ext hx37
      replace hY136 := hY136.ext hx37
      replace hB11 := hB11.ext hx37
      replace hB23 := hB23.ext hx37
      replace hB25 := hB25.ext hx37
      replace hB28 := hB28.ext hx37
      replace hB30 := hB30.ext hx37
      replace hE := hE.ext hx37
      refine R.not rfl ?_  -- 141 := unOp ('not',) 4 ('tmp', 140)
      refine R.move ?_  -- 142 := move ('tmp', 141)
      refine R.gT rfl rfl ?_
      refine R.move ?_  -- 143 := move ('tmp', 20)
      refine R.gT rfl rfl ?_
      refine R.eql (b := true) rfl rfl (by simp) ?_  -- 144 := binOp ('eql',) 38 ('tmp', 143) ('const', ('int', ('i64',), 2)) 38
      refine R.pickT rfl ?_  -- 145 := pick ('tmp', 142) ('tmp', 144) ('const', ('bool', ('false',)))
      refine R.move ?_  -- 146 := move ('tmp', 145)
      refine R.gT rfl rfl ?_
      refine R.move ?_  -- 147 := move ('tmp', 22)
      refine R.gT rfl rfl ?_
      refine R.eql (b := true) rfl rfl (by simp) ?_  -- 148 := binOp ('eql',) 38 ('tmp', 147) ('const', ('int', ('i64',), 2)) 38
      refine R.pickT rfl ?_  -- 149 := pick ('tmp', 146) ('tmp', 148) ('const', ('bool', ('false',)))
      refine R.move ?_  -- 150 := move ('tmp', 149)
      refine R.gT rfl rfl ?_
      refine R.move ?_  -- 151 := move ('tmp', 24)
      refine R.gT rfl rfl ?_
      refine R.eql (b := true) rfl rfl (by simp) ?_  -- 152 := binOp ('eql',) 38 ('tmp', 151) ('const', ('int', ('i64',), 2)) 38
      refine R.pickT rfl ?_  -- 153 := pick ('tmp', 150) ('tmp', 152) ('const', ('bool', ('false',)))
      refine R.move ?_  -- 154 := move ('tmp', 153)
      refine R.gT rfl rfl ?_
      refine R.move ?_  -- 155 := move ('tmp', 27)
      refine R.gT rfl rfl ?_
      refine R.eql (b := true) rfl rfl (by simp) ?_  -- 156 := binOp ('eql',) 38 ('tmp', 155) ('const', ('int', ('i64',), 2)) 38
      refine R.pickT rfl ?_  -- 157 := pick ('tmp', 154) ('tmp', 156) ('const', ('bool', ('false',)))
      refine R.move ?_  -- 158 := move ('tmp', 157)
      refine R.gT rfl rfl ?_
      refine R.move ?_  -- 159 := move ('tmp', 29)
      refine R.gT rfl rfl ?_
      refine R.eql (b := true) rfl rfl (by simp) ?_  -- 160 := binOp ('eql',) 38 ('tmp', 159) ('const', ('int', ('i64',), 2)) 38
      refine R.pickT rfl ?_  -- 161 := pick ('tmp', 158) ('tmp', 160) ('const', ('bool', ('false',)))
      refine R.move ?_  -- 162 := move ('tmp', 161)
      refine R.gT rfl rfl ?_
      refine R.move ?_  -- 163 := move ('tmp', 31)
      refine R.gT rfl rfl ?_
      refine R.eql (b := true) rfl rfl (by simp) ?_  -- 164 := binOp ('eql',) 38 ('tmp', 163) ('const', ('int', ('i64',), 2)) 38
      refine R.pickT rfl ?_  -- 165 := pick ('tmp', 162) ('tmp', 164) ('const', ('bool', ('false',)))
      refine R.assign ?_  -- 10 := assign ('tmp', 165)
      refine R.nil ?_
      refine E.ret ?_
      exact ret1 (.bool true) rfl rfl ⟨_, rfl, hE, rfl⟩  -- return 0 path mm

end Go.Proofs.Ytfdmndkoiheebaa
