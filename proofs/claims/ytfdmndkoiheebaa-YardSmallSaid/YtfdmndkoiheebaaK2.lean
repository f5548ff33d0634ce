/- YardSmall -/
import Derived.Test.YtfdmndkoiheebaaK1
namespace Go.Proofs.Ytfdmndkoiheebaa
open Go Go.RowKit


/-- The kinds, with loads of new memory that keep their place among the loud operations. -/
def kindL (B L : List Nat) (o : Oper) : Nat :=
  match o.op, o.dst with
  | .load .., some d => if L.contains d then 3 else kind B o
  | _, _ => kind B o
theorem E.regionL {P : Program} {N : Nat} {Q : Exit → Env → World → Prop} {e : Env} {w : World} {id : Nat} {l : List Oper} (S : Bool → Nat → Prop) (B L : List Nat) (hm : P.follows .mixedOrders = true) (hd : dstsOk N l.toArray = true)
    (hc : chk l.toArray (fun i => ((l.toArray[i]?).map (kindL B L)).getD 0) = true) (h : ∀ w1, Ext w w1 → w1.heap = w.heap → wpR P l.toArray S true (kindL B L) (Q .normal) l e w1) : wpE P N (.region id l.toArray true) Q e w :=
  E.regionD S (kindL B L) hm hd hc (h _ (Upd.drew _) rfl)
namespace X
variable {P : Program} {ops : Array Oper} {S : Bool → Nat → Prop} {B L : List Nat} {F : Env → World → Prop} {rest : List Oper} {e : Env} {w : World} {o : Oper}
theorem nil (h : F e w) : wpR P ops S true (kindL B L) F [] e w := h
theorem s (hk : kindL B L o = kind B o) (h : wpR P ops S true (kind B) (fun e' w' => wpR P ops S true (kindL B L) F rest e' w') [o] e w) : wpR P ops S true (kindL B L) F (o :: rest) e w := by
  simp only [wpR, hk] at h ⊢
  exact h
theorem ld {x : Operand} {t : TypeId} {k by_ n j : Nat} {z v u : Value} {cs : List Value} {d : Tmp} {ty : TypeId} {pos : String} {aft : Array Edge} (hk : Ty P t k by_ false z) (hr : Row w 1 v n cs) (hx : ev e x = elemPtr v (j * 1)) (hj : cs[j]? = some u) (hd : L.contains d = true)
    (h : wpR P ops S true (kindL B L) F rest (upd e d u) w) : wpR P ops S true (kindL B L) F (⟨some d, .load t x, ty, pos, aft, none⟩ :: rest) e w := by
  obtain ⟨a, cap, rfl, _, hl, hjj⟩ := hr
  obtain ⟨p, rfl, hp⟩ := hjj j (by rw [List.getElem?_eq_some_iff] at hj; exact hj.1)
  have hc : w.cell? (p.add j) = some u := by rw [hp, hj]
  rw [Nat.mul_one] at hx
  have hkd : kindL B L ⟨some d, .load t x, ty, pos, aft, none⟩ = 3 := by simp only [kindL, hd, if_true]
  simp only [wpR, wantedE, if_true, hkd]
  refine .inr ⟨fun _ => by omega, fun y w' => y = u ∧ w' = w, ?_, fun y w' ⟨h1, h2⟩ => by subst h1 h2; exact ⟨fun _ => ⟨AgreeOn.refl _, fun h => by omega⟩, h⟩⟩
  simp [execOp, hx, elemPtr, Instr.loadAt, Instr.sureAddr, R.run_loadVar1 hk hc, Loud]
end X
/-- Stacks that are being filled: those ahead of i have H boxes, the i-th has k. -/
def LenP (xss : List (List Int)) (n H i k : Nat) : Prop := xss.length = n ∧ ∀ j (h : j < xss.length), xss[j].length = if j < i then H else if j = i then k else 0
theorem LenP.empty {n H : Nat} : LenP (List.replicate n []) n H 0 0 := ⟨by simp, fun j h => by simp⟩
theorem LenP.push {xss : List (List Int)} {n H i k : Nat} {x : Int} (h : LenP xss n H i k) (hi : i < xss.length) : LenP (xss.set i (xss[i] ++ [x])) n H i (k + 1) := by
  refine ⟨by rw [List.length_set]; exact h.1, fun j hj => ?_⟩
  rw [List.length_set] at hj
  by_cases hij : i = j
  · subst hij
    have := h.2 i hj
    simp at this ⊢; exact this
  · have := h.2 j hj
    rw [List.getElem_set_ne hij, this]
    have h2 : ¬ j = i := fun e => hij e.symm
    simp [h2]
theorem LenP.next {xss : List (List Int)} {n H i : Nat} (h : LenP xss n H i H) : LenP xss n H (i + 1) 0 := ⟨h.1, fun j hj => by
  rw [h.2 j hj]
  by_cases h1 : j < i
  · rw [if_pos h1, if_pos (by omega)]
  · by_cases h2 : j = i
    · rw [if_neg h1, if_pos h2, if_pos (by omega)]
    · rw [if_neg h1, if_neg h2, if_neg (by omega)]; simp⟩
theorem LenP.full {xss : List (List Int)} {n H k : Nat} (h : LenP xss n H n k) : ∀ j (hj : j < xss.length), xss[j].length = H := fun j hj => by rw [h.2 j hj, if_pos (by have := h.1; omega)]
theorem fit_of {xss : List (List Int)} {n H : Nat} (hn : xss.length = n) (h : ∀ j (hj : j < xss.length), xss[j].length = H) (h1 : n ≤ 32) (h2 : H ≤ 10) : Fit xss := ⟨by omega, fun xs hx => by
  obtain ⟨j, hj, rfl⟩ := List.mem_iff_getElem.1 hx
  rw [h j hj]; exact h2⟩
theorem sets {xss : List (List Int)} {i m : Nat} {xs : List Int} (h : ∀ xs ∈ xss, xs.length ≤ m) (hx : xs.length ≤ m) : ∀ ys ∈ xss.set i xs, ys.length ≤ m := fun ys hy => by
  rcases List.mem_or_eq_of_mem_set hy with h1 | rfl
  · exact h ys h1
  · exact hx
theorem set_same {l : List Value} {i : Nat} {u : Value} (h : l[i]? = some u) : l.set i u = l := by
  obtain ⟨hi, rfl⟩ := List.getElem?_eq_some_iff.1 h
  exact List.set_getElem_self hi
theorem asksF (w : World) {v : Value} {h b : Int} {us : List Value} {xss : List (List Int)} (hm : Mat w v us xss) (hF : Fit xss) : Calls Try.prog 18 #[.agg #[v, .int .i64 h], .int .i64 b] w (Ret fun r w' => Ext w w' ∧ r = .bool true) := asks w hm hF.1 hF.2

set_option maxHeartbeats 6400000 in
theorem yardSmall (w : World) : Calls Try.prog 7 #[] w (Ret fun r w' => Ext w w' ∧ r = .bool true) := by
  refine calls_E (args := []) 190 Try.func7 rfl rfl (by simp) ?_
  have hE : Ext w w := Upd.refl w
  refine E.seq ?_
  refine E.regionP rfl ?_  -- region 0
  refine R.assign ?_  -- 0 := assign ('const', ('bool', ('false',)))
  refine R.nil ?_
  refine E.seq ?_
  refine E.seq ?_
  refine E.regionP rfl ?_  -- region 1
  refine R.assign ?_  -- 1 := assign ('const', ('int', ('i64',), 0))
  refine R.nil ?_
  refine E.block ?_  -- block 0
  refine E.loop (fun n e wr => ∃ (n0 : Nat), n = 256 - n0 ∧ n0 ≤ 256 ∧ Ext w wr ∧ Has e [(1, .int .i64 (n0 : Nat))]) (256) ?_ ?_
  · exact ⟨0, rfl, by omega, hE, rfl, trivial⟩
  · rintro n e wr ⟨n0, rfl, hn, hE, hH⟩
    obtain ⟨e, rfl⟩ := hH.ex
    clear hH
    refine E.seq ?_
    refine E.seq ?_
    refine E.regionP rfl ?_  -- region 2
    refine R.move ?_  -- 11 := move ('tmp', 1)
    refine R.lss rfl rfl rfl ?_  -- 12 := binOp ('lss',) 3 ('tmp', 11) ('const', ('int', ('i64',), 256)) 3
    refine R.nil ?_
    refine E.cond rfl (fun hc12 => ?_) (fun hc12 => ?_)  -- cond t12
    · replace hc12 := dT hc12
      refine E.skip ?_
      refine E.seq ?_
      refine E.block ?_  -- block 1
      refine E.seq ?_
      refine E.regionP rfl ?_  -- region 4
      refine R.make (n := 3) (c := 3) Try.underlying22 t35 rfl rfl rfl (Nat.le_refl _) (by omega) (by omega) nofun ?_  -- 15 := makeSlice 22 ('const', ('int', ('i64',), 3)) ('const', ('int', ('i64',), 3))
      intro b15 w15 hb15 hx15 hB15 hS15
      have hz15 := hE.size
      replace hE := hE.ext hx15
      have hM := MS.empty (w0 := w) hS15 (fun b e => by simp [vblk] at e; subst e; omega)
      clear hS15 hB15
      refine R.move ?_  -- 16 := move ('tmp', 1)
      refine R.quoN (m := n0) (n := 64) rfl rfl (by omega) (by omega) ?_  -- 17 := binOp ('quo',) 3 ('tmp', 16) ('const', ('int', ('i64',), 64)) 3
      refine R.build (build24 hM.outer.one rfl) rfl ?_  -- 18 := build 24 [('tup', 0, ('tmp', 15)), ('tup', 1, ('tmp', 17))]
      refine R.alloc t24 nofun ?_  -- 2 := alloc 24
      intro b2 w1 hb2 hx1 hB2
      replace hb2 := Nat.le_trans hE.size hb2
      replace hM := hM.ext hx1
      replace hE := hE.ext hx1
      replace hB2 : Blk _ b2 24 #[.slice none 0 0, .int .i64 0] := hB2
      refine R.storeA t24 hB2 rfl rfl rfl rfl (ones2 hM.outer.one rfl) nofun ?_  -- None := store 24 ('tmp', 2) ('tmp', 18)
      intro w2 hU2 hs2 hN2
      replace hM := hM.upT hU2 hB2 (by decide)
      replace hE := hE.own hU2 hb2
      replace hB2 : Blk _ b2 24 #[.slice (some ⟨b15, 0, none⟩) 3 3, .int .i64 (n0 / 64 : Nat)] := hN2
      clear hN2
      refine R.nil ?_
      refine E.seq ?_
      refine E.seq ?_
      refine E.regionP rfl ?_  -- region 5
      refine R.move ?_  -- 19 := move ('tmp', 1)
      refine R.remN (m := n0) (n := 64) rfl rfl (by omega) ?_  -- 20 := binOp ('rem',) 3 ('tmp', 19) ('const', ('int', ('i64',), 64)) 3
      refine R.assign ?_  -- 3 := assign ('const', ('int', ('i64',), 1))
      refine R.assign ?_  -- 4 := assign ('tmp', 20)
      refine R.nil ?_
      refine E.block ?_  -- block 2
      refine E.loop (fun n e wr => ∃ (ov : Value) (q left : Nat) (us : List Value) (xss : List (List Int)), n = 4 - q ∧ 1 ≤ q ∧ q ≤ 4 ∧ left ≤ 63 ∧ Ext w wr ∧ MS w wr ov us xss ∧ xss.length = 3 ∧ (∀ xs ∈ xss, xs.length ≤ q - 1) ∧ Blk wr b2 24 #[ov, .int .i64 (n0 / 64 : Nat)] ∧ Has e [(1, .int .i64 (n0 : Nat)), (2, .pointer (some ⟨b2, 0, none⟩)), (3, .int .i64 (q : Nat)), (4, .int .i64 (left : Nat))]) (3) ?_ ?_
      · exact ⟨_, 1, n0 % 64, _, _, rfl, by omega, by omega, by omega, hE, hM, by simp, by simp, hB2, rfl, rfl, rfl, rfl, trivial⟩
      · rintro n e wr ⟨ov, q, left, us, xss, rfl, hq1, hq4, hlf, hE, hM, hxl, hxs, hB2, hH⟩
        obtain ⟨e, rfl⟩ := hH.ex
        clear hH
        refine E.seq ?_
        refine E.seq ?_
        refine E.regionP rfl ?_  -- region 6
        refine R.move ?_  -- 21 := move ('tmp', 3)
        refine R.leq rfl rfl rfl ?_  -- 22 := binOp ('leq',) 3 ('tmp', 21) ('const', ('int', ('i64',), 3)) 3
        refine R.nil ?_
        refine E.cond rfl (fun hc22 => ?_) (fun hc22 => ?_)  -- cond t22
        · replace hc22 := dT hc22
          refine E.skip ?_
          refine E.seq ?_
          refine E.block ?_  -- block 3
          refine E.seq ?_
          refine E.regionP rfl ?_  -- region 8
          refine R.move ?_  -- 27 := move ('tmp', 4)
          refine R.remN (m := left) (n := 4) rfl rfl (by omega) ?_  -- 28 := binOp ('rem',) 3 ('tmp', 27) ('const', ('int', ('i64',), 4)) 3
          refine R.lss rfl rfl rfl ?_  -- 29 := binOp ('lss',) 3 ('tmp', 28) ('const', ('int', ('i64',), 3)) 3
          refine R.nil ?_
          refine E.cond rfl (fun hc29 => ?_) (fun hc29 => ?_)  -- cond t29
          · replace hc29 := dT hc29
            have hl3 : left % 4 < 3 := by omega
            obtain ⟨a, had⟩ : ∃ a, left % 4 = a := ⟨_, rfl⟩
            have hal : a < xss.length := by omega
            obtain ⟨u, hu, _⟩ := hM.get a hal
            have hxa := hxs _ (List.getElem_mem hal)
            refine E.regionW (fun c x => x < wr.heap.size ∧ (c = false → vblk u ≠ some x ∧ vblk ov ≠ some x)) [39]  mixed rfl (by kernel_rfl) ?_  -- region 9
            intro w3 hx3 hh3
            replace hM := hM.ext hx3
            replace hB2 := hB2.ext hx3
            replace hE := hE.ext hx3
            have hEs : Ext w3 w3 := Upd.refl _
            have hS0 := hx3.size
            have hSB : ∀ b, b < w3.heap.size → b < wr.heap.size ∧ (true = false → (fun x => vblk u ≠ some x ∧ vblk ov ≠ some x) b) := fun b hb => ⟨by rw [hh3] at hb; exact hb, nofun⟩
            have hSA : ∀ b, b < w3.heap.size → (fun x => vblk u ≠ some x ∧ vblk ov ≠ some x) b → b < wr.heap.size ∧ (false = false → (fun x => vblk u ≠ some x ∧ vblk ov ≠ some x) b) := fun b hb h => ⟨by rw [hh3] at hb; exact hb, fun _ => h⟩
            have hMs := hM
            have hB2s := hB2
            refine R.fld fa24_0 rfl ?_  -- 30 := fieldAddr 24 ('tmp', 2) 0
            refine R.loadB t22 (hB2s.ext hEs) rfl rfl rfl (hSA b2 hB2s.lt (⟨hB2.ne_vblk (hM.rowOf hal hu) (by decide), hB2.ne_vblk hM.outer (by decide)⟩)) ?_  -- 31 := load 22 ('tmp', 30)
            refine R.move ?_  -- 32 := move ('tmp', 4)
            refine R.remN (m := left) (n := 4) rfl rfl (by omega) ?_  -- 33 := binOp ('rem',) 3 ('tmp', 32) ('const', ('int', ('i64',), 4)) 3
            rw [had]
            refine R.fld fa24_0 rfl ?_  -- 34 := fieldAddr 24 ('tmp', 2) 0
            refine R.loadB t22 (hB2s.ext hEs) rfl rfl rfl (hSA b2 hB2s.lt (⟨hB2.ne_vblk (hM.rowOf hal hu) (by decide), hB2.ne_vblk hM.outer (by decide)⟩)) ?_  -- 35 := load 22 ('tmp', 34)
            refine R.move ?_  -- 36 := move ('tmp', 4)
            refine R.remN (m := left) (n := 4) rfl rfl (by omega) ?_  -- 37 := binOp ('rem',) 3 ('tmp', 36) ('const', ('int', ('i64',), 4)) 3
            rw [had]
            refine R.ix (m := a) Try.underlying22 t35 (by decide) hMs.row rfl rfl hal ?_  -- 38 := indexAddr 22 ('tmp', 35) ('tmp', 37)
            refine R.ldE (j := a) t35 hMs.row hEs rfl hu rfl hSB ?_  -- 39 := load 35 ('tmp', 38)
            refine R.move ?_  -- 40 := move ('tmp', 3)
            refine R.subN (m := 4) (n := q) rfl rfl (by omega) (by omega) ?_  -- 41 := binOp ('sub',) 3 ('const', ('int', ('i64',), 4)) ('tmp', 40) 3
            refine R.buildSlice [.int .i64 (((4 - q : Nat) : Int))] Try.underlying35 t3 rfl rfl (by simp [Value.cells]) (by simp) (fun _ _ _ hb => Nat.lt_of_lt_of_le hb.1 (Nat.le_trans hS0 hEs.size)) ?_  -- 42 := buildSlice 35 1 [('tup', 0, ('tmp', 41))]
            intro b42 w4 hb42 hx4 hB42 hS42
            replace hb42 := Nat.le_trans hE.size hb42
            replace hM := hM.ext hx4
            replace hB2 := hB2.ext hx4
            replace hE := hE.ext hx4
            replace hEs := hEs.ext hx4
            have hru : SInts _ u xss[a] := hM.rowOf hal hu  -- 43 := call {'callee': ('builtin', ('append',)), 'args': [('tmp', 39), ('tmp', 42)], 'argTypes': [35, 35]}
            have hMW := hM
            refine R.append (m := 1) Try.underlying35 Try.underlying35 t3 (by decide) rfl hru hS42.row (by simp [cellsOf, Value.cells, Value.oneCell']) rfl rfl (by omega) (by omega) (fun _ b hb => ⟨Nat.lt_of_lt_of_le hb.1 (Nat.le_trans hS0 hEs.size), (hb.2 rfl).1⟩) ?_
            intro v43 w43 hU43 hS43 hd43
            have hO := hM.outer.upS hU43 hru (by decide)
            replace hB2 := hB2.upS hU43 hru (by decide)
            have hsM := hE.size
            replace hE := hE.app hU43 (hM.fs u (List.mem_of_getElem? hu))
            have hR43 : SInts _ v43 (xss[a] ++ [(((4 - q : Nat) : Int))]) := SInts.app (ys := [(((4 - q : Nat) : Int))]) (m := 1) (by simpa [cellsOf, Value.cells, ints] using hS43) rfl
            clear hS42 hS43 hM
            refine R.ix (m := a) Try.underlying22 t35 (by decide) hO.row rfl rfl hal ?_  -- 44 := indexAddr 22 ('tmp', 31) ('tmp', 33)
            refine R.stE (j := a) (u := v43) t35 hO rfl rfl hR43.one hal (fun _ x hx h => (h.2 rfl).2 hx) ?_  -- None := store 35 ('tmp', 44) ('tmp', 43)
            intro w83 hU83 hs83 hO83
            have hR83 := hR43.upS hU83 hO (by decide)
            replace hB2 := hB2.upS hU83 hO (by decide)
            replace hE := hE.app hU83 hMW.f
            have hM := MS.set hMW hu ((hU43.mono (fun _ _ h => .inl h)).trans hU83 (fun _ _ h => .inr h)) hO83 hR83 (fun b e => by
              rcases hd43 with ⟨h1, _⟩ | ⟨b', h1, h2, _⟩
              · exact .inl (h1 ▸ e)
              · rw [h1] at e; simp at e; subst e; exact .inr h2) hsM
            clear hMW hO hR43 hd43 hru hO83 hR83
            refine R.nil ?_
            refine E.regionP rfl ?_  -- region 7
            refine R.move ?_  -- 23 := move ('tmp', 3)
            refine R.addN (m := q) (n := 1) rfl rfl (by omega) ?_  -- 24 := binOp ('add',) 3 ('tmp', 23) ('const', ('int', ('i64',), 1)) 3
            refine R.move ?_  -- 25 := move ('tmp', 4)
            refine R.quoN (m := left) (n := 4) rfl rfl (by omega) (by omega) ?_  -- 26 := binOp ('quo',) 3 ('tmp', 25) ('const', ('int', ('i64',), 4)) 3
            refine R.assign ?_  -- 3 := assign ('tmp', 24)
            refine R.assign ?_  -- 4 := assign ('tmp', 26)
            refine R.nil ?_
            exact ⟨4 - (q + 1), by omega, ov, q + 1, left / 4, _, _, rfl, by omega, by omega, by omega, hE, hM, by rw [List.length_set]; exact hxl, sets (fun xs h => by have := hxs xs h; omega) (by simp; omega), hB2, rfl, rfl, rfl, rfl, trivial⟩  -- round end 0 path TTT
          · replace hc29 := dF hc29
            refine E.skip ?_
            refine E.regionP rfl ?_  -- region 7
            refine R.move ?_  -- 23 := move ('tmp', 3)
            refine R.addN (m := q) (n := 1) rfl rfl (by omega) ?_  -- 24 := binOp ('add',) 3 ('tmp', 23) ('const', ('int', ('i64',), 1)) 3
            refine R.move ?_  -- 25 := move ('tmp', 4)
            refine R.quoN (m := left) (n := 4) rfl rfl (by omega) (by omega) ?_  -- 26 := binOp ('quo',) 3 ('tmp', 25) ('const', ('int', ('i64',), 4)) 3
            refine R.assign ?_  -- 3 := assign ('tmp', 24)
            refine R.assign ?_  -- 4 := assign ('tmp', 26)
            refine R.nil ?_
            exact ⟨4 - (q + 1), by omega, ov, q + 1, left / 4, _, _, rfl, by omega, by omega, by omega, hE, hM, hxl, fun xs h => by have := hxs xs h; omega, hB2, rfl, rfl, rfl, rfl, trivial⟩  -- round end 1 path TTF
        · replace hc22 := dF hc22
          have hF : Fit xss := ⟨by omega, fun xs h => by have := hxs xs h; omega⟩
          refine E.exit ?_  -- exit 2
          refine E.seq ?_
          refine E.regionP rfl ?_  -- region 10
          refine R.assign ?_  -- 5 := assign ('const', ('int', ('i64',), -1))
          refine R.nil ?_
          refine E.block ?_  -- block 4
          refine E.loop (fun n e wr => ∃ (k : Int), n = (5 - k).toNat ∧ -1 ≤ k ∧ k ≤ 5 ∧ Ext w wr ∧ MS w wr ov us xss ∧ Blk wr b2 24 #[ov, .int .i64 (n0 / 64 : Nat)] ∧ Has e [(1, .int .i64 (n0 : Nat)), (2, .pointer (some ⟨b2, 0, none⟩)), (5, .int .i64 k)]) (6) ?_ ?_
          · exact ⟨-1, rfl, by omega, by omega, hE, hM, hB2, rfl, rfl, rfl, trivial⟩
          · rintro n e wr ⟨k, rfl, hk1, hk5, hE, hM, hB2, hH⟩
            obtain ⟨e, rfl⟩ := hH.ex
            clear hH
            refine E.seq ?_
            refine E.seq ?_
            refine E.regionP rfl ?_  -- region 11
            refine R.move ?_  -- 45 := move ('tmp', 5)
            refine R.lss rfl rfl rfl ?_  -- 46 := binOp ('lss',) 3 ('tmp', 45) ('const', ('int', ('i64',), 5)) 3
            refine R.nil ?_
            refine E.cond rfl (fun hc46 => ?_) (fun hc46 => ?_)  -- cond t46
            · replace hc46 := dT hc46
              refine E.skip ?_
              refine E.seq ?_
              refine E.block ?_  -- block 5
              refine E.seq ?_
              refine E.seq ?_
              refine E.regionP rfl ?_  -- region 13
              refine R.loadA t24 hB2 rfl rfl rfl trivial ?_  -- 49 := load 24 ('tmp', 2)
              refine R.move ?_  -- 50 := move ('tmp', 5)
              refine R.callE2 ent18 (asksF _ hM.mat hF) rfl rfl nofun ?_  -- 51 := call {'callee': ('value', ('func', 18)), 'args': [('tmp', 49), ('tmp', 50)], 'argTypes': [24, 3]}
              rintro v51 w5 hx5 rfl
              replace hM := hM.ext hx5
              replace hB2 := hB2.ext hx5
              replace hE := hE.ext hx5
              refine R.not rfl ?_  -- 52 := unOp ('not',) 4 ('tmp', 51)
              refine R.nil ?_
              refine E.condF rfl ?_  -- cond t52
              refine E.skip ?_
              refine E.seq ?_
              refine E.regionP rfl ?_  -- region 15
              refine R.assign ?_  -- 6 := assign ('const', ('int', ('i64',), -1))
              refine R.nil ?_
              refine E.block ?_  -- block 6
              refine E.loop (fun n e wr => ∃ (to : Int), n = (4 - to).toNat ∧ -1 ≤ to ∧ to ≤ 4 ∧ Ext w wr ∧ MS w wr ov us xss ∧ Blk wr b2 24 #[ov, .int .i64 (n0 / 64 : Nat)] ∧ Has e [(1, .int .i64 (n0 : Nat)), (2, .pointer (some ⟨b2, 0, none⟩)), (5, .int .i64 k), (6, .int .i64 to)]) (5) ?_ ?_
              · exact ⟨-1, rfl, by omega, by omega, hE, hM, hB2, rfl, rfl, rfl, rfl, trivial⟩
              · rintro n e wr ⟨to, rfl, ht1, ht5, hE, hM, hB2, hH⟩
                obtain ⟨e, rfl⟩ := hH.ex
                clear hH
                refine E.seq ?_
                refine E.seq ?_
                refine E.regionP rfl ?_  -- region 16
                refine R.move ?_  -- 53 := move ('tmp', 6)
                refine R.lss rfl rfl rfl ?_  -- 54 := binOp ('lss',) 3 ('tmp', 53) ('const', ('int', ('i64',), 4)) 3
                refine R.nil ?_
                refine E.cond rfl (fun hc54 => ?_) (fun hc54 => ?_)  -- cond t54
                · replace hc54 := dT hc54
                  refine E.skip ?_
                  refine E.seq ?_
                  refine E.block ?_  -- block 7
                  refine E.seq ?_
                  refine E.regionP rfl ?_  -- region 18
                  refine R.loadA t24 hB2 rfl rfl rfl trivial ?_  -- 57 := load 24 ('tmp', 2)
                  refine R.move ?_  -- 58 := move ('tmp', 5)
                  refine R.move ?_  -- 59 := move ('tmp', 6)
                  refine R.build build30 rfl ?_  -- 60 := build 30 [('tup', 0, ('tmp', 58)), ('tup', 1, ('tmp', 59))]
                  refine R.move ?_  -- 61 := move ('tmp', 5)
                  refine R.move ?_  -- 62 := move ('tmp', 6)
                  refine R.callE4 ent20 (changes _ hM.mat hF) rfl rfl rfl rfl nofun ?_  -- 63 := call {'callee': ('value', ('func', 20)), 'args': [('tmp', 57), ('tmp', 60), ('tmp', 61), ('tmp', 62)], 'argTypes': [24, 30, 3, 3]}
                  rintro v63 w6 hx6 rfl
                  replace hM := hM.ext hx6
                  replace hB2 := hB2.ext hx6
                  replace hE := hE.ext hx6
                  refine R.not rfl ?_  -- 64 := unOp ('not',) 4 ('tmp', 63)
                  refine R.nil ?_
                  refine E.condF rfl ?_  -- cond t64
                  refine E.skip ?_
                  refine E.regionP rfl ?_  -- region 17
                  refine R.move ?_  -- 55 := move ('tmp', 6)
                  refine R.add rfl rfl (by omega) (by omega) ?_  -- 56 := binOp ('add',) 3 ('tmp', 55) ('const', ('int', ('i64',), 1)) 3
                  refine R.assign ?_  -- 6 := assign ('tmp', 56)
                  refine R.nil ?_
                  exact ⟨(4 - (to + 1)).toNat, by omega, to + 1, rfl, by omega, by omega, hE, hM, hB2, rfl, rfl, rfl, rfl, trivial⟩  -- round end 2 path TFTT
                · replace hc54 := dF hc54
                  refine E.exit ?_  -- exit 6
                  refine E.regionP rfl ?_  -- region 12
                  refine R.move ?_  -- 47 := move ('tmp', 5)
                  refine R.add rfl rfl (by omega) (by omega) ?_  -- 48 := binOp ('add',) 3 ('tmp', 47) ('const', ('int', ('i64',), 1)) 3
                  refine R.assign ?_  -- 5 := assign ('tmp', 48)
                  refine R.nil ?_
                  exact ⟨(5 - (k + 1)).toNat, by omega, k + 1, rfl, by omega, by omega, hE, hM, hB2, rfl, rfl, rfl, trivial⟩  -- round end 3 path TFTF
            · replace hc46 := dF hc46
              refine E.exit ?_  -- exit 4
              refine E.regionP rfl ?_  -- region 3
              refine R.move ?_  -- 13 := move ('tmp', 1)
              refine R.addN (n := 1) rfl rfl (by omega) ?_  -- 14 := binOp ('add',) 3 ('tmp', 13) ('const', ('int', ('i64',), 1)) 3
              refine R.assign ?_  -- 1 := assign ('tmp', 14)
              refine R.nil ?_
              exact ⟨256 - (n0 + 1), by omega, n0 + 1, rfl, by omega, hE, rfl, trivial⟩  -- round end 4 path TFF
    · replace hc12 := dF hc12
      refine E.exit ?_  -- exit 0
      refine E.seq ?_
      refine E.seq ?_
      refine E.regionP rfl ?_  -- region 20
      refine R.assign ?_  -- 7 := assign ('const', ('int', ('i64',), 0))
      refine R.nil ?_
      refine E.block ?_  -- block 8
      refine E.loop (fun n e wr => ∃ (n0 : Nat), n = 33 - n0 ∧ n0 ≤ 33 ∧ Ext w wr ∧ Has e [(7, .int .i64 (n0 : Nat))]) (33) ?_ ?_
      · exact ⟨0, rfl, by omega, hE, rfl, trivial⟩
      · rintro n e wr ⟨n0, rfl, hn, hE, hH⟩
        obtain ⟨e, rfl⟩ := hH.ex
        clear hH
        refine E.seq ?_
        refine E.seq ?_
        refine E.regionP rfl ?_  -- region 21
        refine R.move ?_  -- 65 := move ('tmp', 7)
        refine R.lss rfl rfl rfl ?_  -- 66 := binOp ('lss',) 3 ('tmp', 65) ('const', ('int', ('i64',), 33)) 3
        refine R.nil ?_
        refine E.cond rfl (fun hc66 => ?_) (fun hc66 => ?_)  -- cond t66
        · replace hc66 := dT hc66
          refine E.skip ?_
          refine E.seq ?_
          refine E.block ?_  -- block 9
          refine E.seq ?_
          refine E.regionP rfl ?_  -- region 23
          refine R.move ?_  -- 69 := move ('tmp', 7)
          refine R.make (n := n0) (c := n0) Try.underlying22 t35 rfl rfl rfl (Nat.le_refl _) (by omega) (by omega) nofun ?_  -- 70 := makeSlice 22 ('tmp', 69) ('tmp', 69)
          intro b70 w70 hb70 hx70 hB70 hS70
          have hz70 := hE.size
          replace hE := hE.ext hx70
          have hM := MS.empty (w0 := w) hS70 (fun b e => by simp [vblk] at e; subst e; omega)
          clear hS70 hB70
          refine R.move ?_  -- 71 := move ('tmp', 7)
          refine R.remN (m := n0) (n := 7) rfl rfl (by omega) ?_  -- 72 := binOp ('rem',) 3 ('tmp', 71) ('const', ('int', ('i64',), 7)) 3
          refine R.addN (m := 1) (n := n0 % 7) rfl rfl (by omega) ?_  -- 73 := binOp ('add',) 3 ('const', ('int', ('i64',), 1)) ('tmp', 72) 3
          refine R.build (build24 hM.outer.one rfl) rfl ?_  -- 74 := build 24 [('tup', 0, ('tmp', 70)), ('tup', 1, ('tmp', 73))]
          refine R.alloc t24 nofun ?_  -- 8 := alloc 24
          intro b8 w7 hb8 hx7 hB8
          replace hb8 := Nat.le_trans hE.size hb8
          replace hM := hM.ext hx7
          replace hE := hE.ext hx7
          replace hB8 : Blk _ b8 24 #[.slice none 0 0, .int .i64 0] := hB8
          refine R.storeA t24 hB8 rfl rfl rfl rfl (ones2 hM.outer.one rfl) nofun ?_  -- None := store 24 ('tmp', 8) ('tmp', 74)
          intro w8 hU8 hs8 hN8
          replace hM := hM.upT hU8 hB8 (by decide)
          replace hE := hE.own hU8 hb8
          replace hB8 : Blk _ b8 24 #[.slice (some ⟨b70, 0, none⟩) n0 n0, .int .i64 (1 + n0 % 7 : Nat)] := hN8
          clear hN8
          refine R.nil ?_
          refine E.seq ?_
          refine E.seq ?_
          refine E.regionP rfl ?_  -- region 24
          refine R.fld fa24_0 rfl ?_  -- 75 := fieldAddr 24 ('tmp', 8) 0
          refine R.loadB t22 hB8 rfl rfl rfl trivial ?_  -- 76 := load 22 ('tmp', 75)
          refine R.len Try.underlying22 hM.outer.row rfl ?_  -- 77 := call {'callee': ('builtin', ('len',)), 'args': [('tmp', 76)], 'argTypes': [22]}
          refine R.move ?_  -- 78 := move ('const', ('int', ('i64',), 0))
          refine R.nil ?_
          refine E.block ?_  -- block 10
          refine E.loop (fun n e wr => ∃ (ov : Value) (i : Nat) (us : List Value) (xss : List (List Int)), n = n0 - i ∧ i ≤ n0 ∧ Ext w wr ∧ MS w wr ov us xss ∧ LenP xss n0 (1 + n0 % 7) i 0 ∧ Blk wr b8 24 #[ov, .int .i64 (1 + n0 % 7 : Nat)] ∧ Has e [(7, .int .i64 (n0 : Nat)), (8, .pointer (some ⟨b8, 0, none⟩)), (77, .int .i64 (n0 : Nat)), (78, .int .i64 (i : Nat))]) (n0) ?_ ?_
          · exact ⟨_, 0, _, _, rfl, by omega, hE, hM, LenP.empty, hB8, rfl, rfl, by simp [upd], rfl, trivial⟩
          · rintro n e wr ⟨ov, i, us, xss, rfl, hi, hE, hM, hL, hB8, hH⟩
            obtain ⟨e, rfl⟩ := hH.ex
            clear hH
            refine E.seq ?_
            refine E.regionP rfl ?_  -- region 25
            refine R.lss rfl rfl rfl ?_  -- 79 := binOp ('lss',) 3 ('tmp', 78) ('tmp', 77) 3
            refine R.nil ?_
            refine E.seq ?_
            refine E.cond rfl (fun hc79 => ?_) (fun hc79 => ?_)  -- cond t79
            · replace hc79 := dT hc79
              have hin : i < n0 := by omega
              refine E.skip ?_
              refine E.seq ?_
              refine E.block ?_  -- block 11
              refine E.seq ?_
              refine E.regionP rfl ?_  -- region 26
              refine R.move ?_  -- 80 := move ('tmp', 78)
              refine R.assign ?_  -- 9 := assign ('tmp', 80)
              refine R.nil ?_
              refine E.seq ?_
              refine E.regionP rfl ?_  -- region 27
              refine R.assign ?_  -- 10 := assign ('const', ('int', ('i64',), 0))
              refine R.nil ?_
              refine E.block ?_  -- block 12
              refine E.loop (fun n e wr => ∃ (k : Nat) (us : List Value) (xss : List (List Int)), n = 1 + n0 % 7 - k ∧ k ≤ 1 + n0 % 7 ∧ Ext w wr ∧ MS w wr ov us xss ∧ LenP xss n0 (1 + n0 % 7) i k ∧ Blk wr b8 24 #[ov, .int .i64 (1 + n0 % 7 : Nat)] ∧ Has e [(7, .int .i64 (n0 : Nat)), (8, .pointer (some ⟨b8, 0, none⟩)), (9, .int .i64 (i : Nat)), (77, .int .i64 (n0 : Nat)), (78, .int .i64 (i : Nat)), (10, .int .i64 (k : Nat))]) (1 + n0 % 7) ?_ ?_
              · exact ⟨0, _, _, rfl, by omega, hE, hM, hL, hB8, rfl, rfl, rfl, rfl, rfl, rfl, trivial⟩
              · rintro n e wr ⟨k, us, xss, rfl, hk, hE, hM, hL, hB8, hH⟩
                obtain ⟨e, rfl⟩ := hH.ex
                clear hH
                refine E.seq ?_
                refine E.seq ?_
                refine E.regionP rfl ?_  -- region 28
                refine R.move ?_  -- 81 := move ('tmp', 10)
                refine R.fld fa24_1 rfl ?_  -- 82 := fieldAddr 24 ('tmp', 8) 1
                refine R.loadB t3 hB8 rfl rfl rfl trivial ?_  -- 83 := load 3 ('tmp', 82)
                refine R.lss rfl rfl rfl ?_  -- 84 := binOp ('lss',) 3 ('tmp', 81) ('tmp', 83) 3
                refine R.nil ?_
                refine E.cond rfl (fun hc84 => ?_) (fun hc84 => ?_)  -- cond t84
                · replace hc84 := dT hc84
                  have hkH : k < 1 + n0 % 7 := by omega
                  have hal : i < xss.length := by have := hL.1; omega
                  obtain ⟨u, hu, _⟩ := hM.get i hal
                  have hxi := hL.2 i hal
                  rw [if_neg (by omega), if_pos rfl] at hxi
                  refine E.skip ?_
                  refine E.seq ?_
                  refine E.block ?_  -- block 13
                  refine E.regionW (fun c x => x < wr.heap.size ∧ (c = false → vblk u ≠ some x ∧ vblk ov ≠ some x)) [94]  mixed rfl (by kernel_rfl) ?_  -- region 30
                  intro w9 hx9 hh9
                  replace hM := hM.ext hx9
                  replace hB8 := hB8.ext hx9
                  replace hE := hE.ext hx9
                  have hEs : Ext w9 w9 := Upd.refl _
                  have hS0 := hx9.size
                  have hSB : ∀ b, b < w9.heap.size → b < wr.heap.size ∧ (true = false → (fun x => vblk u ≠ some x ∧ vblk ov ≠ some x) b) := fun b hb => ⟨by rw [hh9] at hb; exact hb, nofun⟩
                  have hSA : ∀ b, b < w9.heap.size → (fun x => vblk u ≠ some x ∧ vblk ov ≠ some x) b → b < wr.heap.size ∧ (false = false → (fun x => vblk u ≠ some x ∧ vblk ov ≠ some x) b) := fun b hb h => ⟨by rw [hh9] at hb; exact hb, fun _ => h⟩
                  have hMs := hM
                  have hB8s := hB8
                  refine R.fld fa24_0 rfl ?_  -- 87 := fieldAddr 24 ('tmp', 8) 0
                  refine R.loadB t22 (hB8s.ext hEs) rfl rfl rfl (hSA b8 hB8s.lt (⟨hB8.ne_vblk (hM.rowOf hal hu) (by decide), hB8.ne_vblk hM.outer (by decide)⟩)) ?_  -- 88 := load 22 ('tmp', 87)
                  refine R.move ?_  -- 89 := move ('tmp', 9)
                  refine R.fld fa24_0 rfl ?_  -- 90 := fieldAddr 24 ('tmp', 8) 0
                  refine R.loadB t22 (hB8s.ext hEs) rfl rfl rfl (hSA b8 hB8s.lt (⟨hB8.ne_vblk (hM.rowOf hal hu) (by decide), hB8.ne_vblk hM.outer (by decide)⟩)) ?_  -- 91 := load 22 ('tmp', 90)
                  refine R.move ?_  -- 92 := move ('tmp', 9)
                  refine R.ix (m := i) Try.underlying22 t35 (by decide) hMs.row rfl rfl hal ?_  -- 93 := indexAddr 22 ('tmp', 91) ('tmp', 92)
                  refine R.ldE (j := i) t35 hMs.row hEs rfl hu rfl hSB ?_  -- 94 := load 35 ('tmp', 93)
                  refine R.move ?_  -- 95 := move ('tmp', 9)
                  refine R.mulN (m := 10) (n := i) rfl rfl (by omega) ?_  -- 96 := binOp ('mul',) 3 ('const', ('int', ('i64',), 10)) ('tmp', 95) 3
                  refine R.addN (m := 1) (n := 10 * i) rfl rfl (by omega) ?_  -- 97 := binOp ('add',) 3 ('const', ('int', ('i64',), 1)) ('tmp', 96) 3
                  refine R.move ?_  -- 98 := move ('tmp', 10)
                  refine R.addN (m := 1 + 10 * i) (n := k) rfl rfl (by omega) ?_  -- 99 := binOp ('add',) 3 ('tmp', 97) ('tmp', 98) 3
                  refine R.buildSlice [.int .i64 (((1 + 10 * i + k : Nat) : Int))] Try.underlying35 t3 rfl rfl (by simp [Value.cells]) (by simp) (fun _ _ _ hb => Nat.lt_of_lt_of_le hb.1 (Nat.le_trans hS0 hEs.size)) ?_  -- 100 := buildSlice 35 1 [('tup', 0, ('tmp', 99))]
                  intro b100 w10 hb100 hx10 hB100 hS100
                  replace hb100 := Nat.le_trans hE.size hb100
                  replace hM := hM.ext hx10
                  replace hB8 := hB8.ext hx10
                  replace hE := hE.ext hx10
                  replace hEs := hEs.ext hx10
                  have hru : SInts _ u xss[i] := hM.rowOf hal hu  -- 101 := call {'callee': ('builtin', ('append',)), 'args': [('tmp', 94), ('tmp', 100)], 'argTypes': [35, 35]}
                  have hMW := hM
                  refine R.append (m := 1) Try.underlying35 Try.underlying35 t3 (by decide) rfl hru hS100.row (by simp [cellsOf, Value.cells, Value.oneCell']) rfl rfl (by omega) (by omega) (fun _ b hb => ⟨Nat.lt_of_lt_of_le hb.1 (Nat.le_trans hS0 hEs.size), (hb.2 rfl).1⟩) ?_
                  intro v101 w101 hU101 hS101 hd101
                  have hO := hM.outer.upS hU101 hru (by decide)
                  replace hB8 := hB8.upS hU101 hru (by decide)
                  have hsM := hE.size
                  replace hE := hE.app hU101 (hM.fs u (List.mem_of_getElem? hu))
                  have hR101 : SInts _ v101 (xss[i] ++ [(((1 + 10 * i + k : Nat) : Int))]) := SInts.app (ys := [(((1 + 10 * i + k : Nat) : Int))]) (m := 1) (by simpa [cellsOf, Value.cells, ints] using hS101) rfl
                  clear hS100 hS101 hM
                  refine R.ix (m := i) Try.underlying22 t35 (by decide) hO.row rfl rfl hal ?_  -- 102 := indexAddr 22 ('tmp', 88) ('tmp', 89)
                  refine R.stE (j := i) (u := v101) t35 hO rfl rfl hR101.one hal (fun _ x hx h => (h.2 rfl).2 hx) ?_  -- None := store 35 ('tmp', 102) ('tmp', 101)
                  intro w83 hU83 hs83 hO83
                  have hR83 := hR101.upS hU83 hO (by decide)
                  replace hB8 := hB8.upS hU83 hO (by decide)
                  replace hE := hE.app hU83 hMW.f
                  have hM := MS.set hMW hu ((hU101.mono (fun _ _ h => .inl h)).trans hU83 (fun _ _ h => .inr h)) hO83 hR83 (fun b e => by
                    rcases hd101 with ⟨h1, _⟩ | ⟨b', h1, h2, _⟩
                    · exact .inl (h1 ▸ e)
                    · rw [h1] at e; simp at e; subst e; exact .inr h2) hsM
                  clear hMW hO hR101 hd101 hru hO83 hR83
                  refine R.nil ?_
                  refine E.regionP rfl ?_  -- region 29
                  refine R.move ?_  -- 85 := move ('tmp', 10)
                  refine R.addN (n := 1) rfl rfl (by omega) ?_  -- 86 := binOp ('add',) 3 ('tmp', 85) ('const', ('int', ('i64',), 1)) 3
                  refine R.assign ?_  -- 10 := assign ('tmp', 86)
                  refine R.nil ?_
                  exact ⟨1 + n0 % 7 - (k + 1), by omega, k + 1, _, _, rfl, by omega, hE, hM, hL.push hal, hB8, rfl, rfl, rfl, rfl, rfl, rfl, trivial⟩  -- round end 5 path FTTT
                · replace hc84 := dF hc84
                  obtain rfl : k = 1 + n0 % 7 := by omega
                  refine E.exit ?_  -- exit 12
                  refine E.regionP rfl ?_  -- region 31
                  refine R.addN (n := 1) rfl rfl (by omega) ?_  -- 103 := binOp ('add',) 3 ('tmp', 78) ('const', ('int', ('i64',), 1)) 3
                  refine R.move ?_  -- 78 := move ('tmp', 103)
                  refine R.nil ?_
                  exact ⟨n0 - (i + 1), by omega, ov, i + 1, _, _, rfl, by omega, hE, hM, hL.next, hB8, rfl, rfl, rfl, rfl, trivial⟩  -- round end 6 path FTTF
            · replace hc79 := dF hc79
              rename MS w wr ov us xss => hM9
              obtain rfl : i = n0 := by omega
              have hM := hM9
              clear hM9
              have hlen := hL.1
              have hfull := hL.full
              obtain ⟨H, hHd⟩ : ∃ H, 1 + i % 7 = H := ⟨_, rfl⟩
              have hH7 : H ≤ 7 := by omega
              rw [hHd] at hB8 hfull
              have hF : Fit xss := fit_of hlen hfull (by omega) (by omega)
              have hrow : ∀ xs ∈ xss, xs.length ≤ 8 := fun xs hx => by obtain ⟨j, hj, rfl⟩ := List.mem_iff_getElem.1 hx; rw [hfull j hj]; omega
              refine E.exit ?_  -- exit 10
              refine E.seq ?_
              refine E.seq ?_
              refine E.regionP rfl ?_  -- region 32
              refine R.loadA t24 hB8 rfl rfl rfl trivial ?_  -- 104 := load 24 ('tmp', 8)
              refine R.callE2 ent18 (asksF _ hM.mat hF) rfl rfl nofun ?_  -- 105 := call {'callee': ('value', ('func', 18)), 'args': [('tmp', 104), ('const', ('int', ('i64',), 1))], 'argTypes': [24, 3]}
              rintro v105 w11 hx11 rfl
              replace hM := hM.ext hx11
              replace hB8 := hB8.ext hx11
              replace hE := hE.ext hx11
              refine R.not rfl ?_  -- 106 := unOp ('not',) 4 ('tmp', 105)
              refine R.move ?_  -- 107 := move ('tmp', 106)
              refine R.gT rfl rfl ?_
              refine R.loadA t24 hB8 rfl rfl rfl trivial ?_  -- 108 := load 24 ('tmp', 8)
              refine R.gT rfl rfl ?_
              refine R.move ?_  -- 109 := move ('tmp', 7)
              refine R.gT rfl rfl ?_
              refine R.sub rfl rfl (by omega) (by omega) ?_  -- 110 := binOp ('sub',) 3 ('tmp', 109) ('const', ('int', ('i64',), 1)) 3
              refine R.gT rfl rfl ?_
              refine R.build build30 rfl ?_  -- 111 := build 30 [('tup', 0, ('tmp', 110)), ('tup', 1, ('const', ('int', ('i64',), 0)))]
              refine R.gT rfl rfl ?_
              refine R.move ?_  -- 112 := move ('tmp', 7)
              refine R.gT rfl rfl ?_
              refine R.sub rfl rfl (by omega) (by omega) ?_  -- 113 := binOp ('sub',) 3 ('tmp', 112) ('const', ('int', ('i64',), 1)) 3
              refine R.gT rfl rfl ?_
              refine R.callE4 ent20 (changes _ hM.mat hF) rfl rfl rfl rfl nofun ?_  -- 114 := call {'callee': ('value', ('func', 20)), 'args': [('tmp', 108), ('tmp', 111), ('const', ('int', ('i64',), 11)), ('tmp', 113)], 'argTypes': [24, 30, 3, 3]}
              rintro v114 w12 hx12 rfl
              replace hM := hM.ext hx12
              replace hB8 := hB8.ext hx12
              replace hE := hE.ext hx12
              refine R.gT rfl rfl ?_
              refine R.not rfl ?_  -- 115 := unOp ('not',) 4 ('tmp', 114)
              refine R.pickF rfl ?_  -- 116 := pick ('tmp', 107) ('const', ('bool', ('true',))) ('tmp', 115)
              refine R.move ?_  -- 117 := move ('tmp', 116)
              refine R.gT rfl rfl ?_
              refine R.loadA t24 hB8 rfl rfl rfl trivial ?_  -- 118 := load 24 ('tmp', 8)
              refine R.gT rfl rfl ?_
              refine R.move ?_  -- 119 := move ('tmp', 7)
              refine R.gT rfl rfl ?_
              refine R.build build30 rfl ?_  -- 120 := build 30 [('tup', 0, ('const', ('int', ('i64',), 0))), ('tup', 1, ('tmp', 119))]
              refine R.gT rfl rfl ?_
              refine R.callE4 ent20 (changes _ hM.mat hF) rfl rfl rfl rfl nofun ?_  -- 121 := call {'callee': ('value', ('func', 20)), 'args': [('tmp', 118), ('tmp', 120), ('const', ('int', ('i64',), 1000000)), ('const', ('int', ('i64',), 0))], 'argTypes': [24, 30, 3, 3]}
              rintro v121 w13 hx13 rfl
              replace hM := hM.ext hx13
              replace hB8 := hB8.ext hx13
              replace hE := hE.ext hx13
              refine R.gT rfl rfl ?_
              refine R.not rfl ?_  -- 122 := unOp ('not',) 4 ('tmp', 121)
              refine R.pickF rfl ?_  -- 123 := pick ('tmp', 117) ('const', ('bool', ('true',))) ('tmp', 122)
              refine R.nil ?_
              refine E.condF rfl ?_  -- cond t123
              refine E.skip ?_
              refine E.seq ?_
              refine E.forget [(7, .int .i64 (i : Nat)), (8, .pointer (some ⟨b8, 0, none⟩))] ⟨rfl, rfl, trivial⟩ (fun e => ?_)
              refine E.regionP rfl ?_  -- region 34
              refine R.move ?_  -- 124 := move ('tmp', 7)
              refine R.gtr rfl rfl rfl ?_  -- 125 := binOp ('gtr',) 3 ('tmp', 124) ('const', ('int', ('i64',), 2)) 3
              refine R.nil ?_
              refine E.cond rfl (fun hc125 => ?_) (fun hc125 => ?_)  -- cond t125
              · replace hc125 := dT hc125
                have hi2 : 2 < i := by omega
                have hal : i - 1 < xss.length := by omega
                obtain ⟨u, hu, _⟩ := hM.get (i - 1) hal
                have hxa := hfull (i - 1) hal
                refine E.seq ?_
                refine E.regionW (fun c x => x < w13.heap.size ∧ (c = false → vblk ov ≠ some x)) [135]  mixed rfl (by kernel_rfl) ?_  -- region 35
                intro w14 hx14 hh14
                replace hM := hM.ext hx14
                replace hB8 := hB8.ext hx14
                replace hE := hE.ext hx14
                have hEs : Ext w14 w14 := Upd.refl _
                have hS0 := hx14.size
                have hSB : ∀ b, b < w14.heap.size → b < w13.heap.size ∧ (true = false → (fun x => vblk ov ≠ some x) b) := fun b hb => ⟨by rw [hh14] at hb; exact hb, nofun⟩
                have hSA : ∀ b, b < w14.heap.size → (fun x => vblk ov ≠ some x) b → b < w13.heap.size ∧ (false = false → (fun x => vblk ov ≠ some x) b) := fun b hb h => ⟨by rw [hh14] at hb; exact hb, fun _ => h⟩
                have hMs := hM
                have hB8s := hB8
                refine R.fld fa24_0 rfl ?_  -- 126 := fieldAddr 24 ('tmp', 8) 0
                refine R.loadB t22 (hB8s.ext hEs) rfl rfl rfl (hSA b8 hB8s.lt (hB8.ne_vblk hM.outer (by decide))) ?_  -- 127 := load 22 ('tmp', 126)
                refine R.move ?_  -- 128 := move ('tmp', 7)
                refine R.subN (m := i) (n := 1) rfl rfl (by omega) (by omega) ?_  -- 129 := binOp ('sub',) 3 ('tmp', 128) ('const', ('int', ('i64',), 1)) 3
                refine R.fld fa24_0 rfl ?_  -- 130 := fieldAddr 24 ('tmp', 8) 0
                refine R.loadB t22 (hB8s.ext hEs) rfl rfl rfl (hSA b8 hB8s.lt (hB8.ne_vblk hM.outer (by decide))) ?_  -- 131 := load 22 ('tmp', 130)
                refine R.move ?_  -- 132 := move ('tmp', 7)
                refine R.subN (m := i) (n := 1) rfl rfl (by omega) (by omega) ?_  -- 133 := binOp ('sub',) 3 ('tmp', 132) ('const', ('int', ('i64',), 1)) 3
                refine R.ix (m := (i - 1)) Try.underlying22 t35 (by decide) hMs.row rfl rfl hal ?_  -- 134 := indexAddr 22 ('tmp', 131) ('tmp', 133)
                refine R.ldE (j := (i - 1)) t35 hMs.row hEs rfl hu rfl hSB ?_  -- 135 := load 35 ('tmp', 134)
                refine R.fld fa24_1 rfl ?_  -- 136 := fieldAddr 24 ('tmp', 8) 1
                refine R.loadB t3 (hB8s.ext hEs) rfl rfl rfl (hSA b8 hB8s.lt (hB8.ne_vblk hM.outer (by decide))) ?_  -- 137 := load 3 ('tmp', 136)
                refine R.subN (m := H) (n := 1) rfl rfl (by omega) (by omega) ?_  -- 138 := binOp ('sub',) 3 ('tmp', 137) ('const', ('int', ('i64',), 1)) 3
                obtain ⟨a139, c139, hv139, hc139, _⟩ := id (hM.rowOf hal hu)  -- 139 := slice 35 ('tmp', 135) ('none',) ('some', ('tmp', 138)) ('none',)
                refine R.slc (l := 0) (r := H - 1) Try.underlying35 t3 rfl hv139 rfl ⟨_, rfl⟩ (Nat.zero_le _) (Nat.le_trans (show H - 1 ≤ xss[i - 1].length by omega) hc139) ?_
                refine R.ix (m := (i - 1)) Try.underlying22 t35 (by decide) hM.row rfl rfl hal ?_  -- 140 := indexAddr 22 ('tmp', 127) ('tmp', 129)
                have hru : SInts _ (cut 1 u 0 (H - 1)) (xss[i - 1].take (H - 1)) := SInts.take (hM.rowOf hal hu) (show H - 1 ≤ xss[i - 1].length by omega)  -- None := store 35 ('tmp', 140) ('tmp', 139)
                refine R.stE (j := (i - 1)) (u := cut 1 u 0 (H - 1)) t35 hM.outer rfl rfl hru.one hal (fun _ x hx h => h.2 rfl hx) ?_
                intro w83 hU83 hs83 hO83
                have hR83 := hru.upS hU83 hM.outer (by decide)
                replace hB8 := hB8.upS hU83 hM.outer (by decide)
                have hsM := hE.size
                replace hE := hE.app hU83 hM.f
                replace hM := MS.set hM hu (hU83.mono (fun _ _ h => .inr h)) hO83 hR83 (fun b e => .inl (vblk_cut e)) hsM
                clear hru hO83 hR83
                have hl1 : 0 < (xss.set (i - 1) (xss[i - 1].take (H - 1))).length := by simp; omega
                have h01 : ((xss.set (i - 1) (xss[i - 1].take (H - 1)))[0]'hl1).length = H := by rw [List.getElem_set_ne (by omega)]; exact hfull 0 (by omega)
                replace hrow := sets (i := i - 1) (xs := xss[i - 1].take (H - 1)) hrow (by simp; omega)
                generalize hys : xss.set (i - 1) (xss[i - 1].take (H - 1)) = ys at *
                have hyl : ys.length = i := by rw [← hys]; simpa using hlen
                clear hu
                obtain ⟨u1, hu1, _⟩ := hM.get 0 hl1
                refine R.nil ?_
                refine E.seq ?_
                refine E.regionW (fun c x => x < w83.heap.size ∧ (c = false → vblk u1 ≠ some x ∧ vblk ov ≠ some x)) [146]  mixed rfl (by kernel_rfl) ?_  -- region 36
                intro w15 hx15 hh15
                replace hM := hM.ext hx15
                replace hB8 := hB8.ext hx15
                replace hE := hE.ext hx15
                have hEs : Ext w15 w15 := Upd.refl _
                have hS0 := hx15.size
                have hSB : ∀ b, b < w15.heap.size → b < w83.heap.size ∧ (true = false → (fun x => vblk u1 ≠ some x ∧ vblk ov ≠ some x) b) := fun b hb => ⟨by rw [hh15] at hb; exact hb, nofun⟩
                have hSA : ∀ b, b < w15.heap.size → (fun x => vblk u1 ≠ some x ∧ vblk ov ≠ some x) b → b < w83.heap.size ∧ (false = false → (fun x => vblk u1 ≠ some x ∧ vblk ov ≠ some x) b) := fun b hb h => ⟨by rw [hh15] at hb; exact hb, fun _ => h⟩
                have hMs := hM
                have hB8s := hB8
                refine R.fld fa24_0 rfl ?_  -- 141 := fieldAddr 24 ('tmp', 8) 0
                refine R.loadB t22 (hB8s.ext hEs) rfl rfl rfl (hSA b8 hB8s.lt (⟨hB8.ne_vblk (hM.rowOf hl1 hu1) (by decide), hB8.ne_vblk hM.outer (by decide)⟩)) ?_  -- 142 := load 22 ('tmp', 141)
                refine R.fld fa24_0 rfl ?_  -- 143 := fieldAddr 24 ('tmp', 8) 0
                refine R.loadB t22 (hB8s.ext hEs) rfl rfl rfl (hSA b8 hB8s.lt (⟨hB8.ne_vblk (hM.rowOf hl1 hu1) (by decide), hB8.ne_vblk hM.outer (by decide)⟩)) ?_  -- 144 := load 22 ('tmp', 143)
                refine R.ix (m := 0) Try.underlying22 t35 (by decide) hMs.row rfl rfl hl1 ?_  -- 145 := indexAddr 22 ('tmp', 144) ('const', ('int', ('i64',), 0))
                refine R.ldE (j := 0) t35 hMs.row hEs rfl hu1 rfl hSB ?_  -- 146 := load 35 ('tmp', 145)
                refine R.buildSlice [.int .i64 (999)] Try.underlying35 t3 rfl rfl (by simp [Value.cells]) (by simp) (fun _ _ _ hb => Nat.lt_of_lt_of_le hb.1 (Nat.le_trans hS0 hEs.size)) ?_  -- 147 := buildSlice 35 1 [('tup', 0, ('const', ('int', ('i64',), 999)))]
                intro b147 w16 hb147 hx16 hB147 hS147
                replace hb147 := Nat.le_trans hE.size hb147
                replace hM := hM.ext hx16
                replace hB8 := hB8.ext hx16
                replace hE := hE.ext hx16
                replace hEs := hEs.ext hx16
                have hru : SInts _ u1 ys[0] := hM.rowOf hl1 hu1  -- 148 := call {'callee': ('builtin', ('append',)), 'args': [('tmp', 146), ('tmp', 147)], 'argTypes': [35, 35]}
                have hMW := hM
                refine R.append (m := 1) Try.underlying35 Try.underlying35 t3 (by decide) rfl hru hS147.row (by simp [cellsOf, Value.cells, Value.oneCell']) rfl rfl (by omega) (by omega) (fun _ b hb => ⟨Nat.lt_of_lt_of_le hb.1 (Nat.le_trans hS0 hEs.size), (hb.2 rfl).1⟩) ?_
                intro v148 w148 hU148 hS148 hd148
                have hO := hM.outer.upS hU148 hru (by decide)
                replace hB8 := hB8.upS hU148 hru (by decide)
                have hsM := hE.size
                replace hE := hE.app hU148 (hM.fs u1 (List.mem_of_getElem? hu1))
                have hR148 : SInts _ v148 (ys[0] ++ [(999)]) := SInts.app (ys := [(999)]) (m := 1) (by simpa [cellsOf, Value.cells, ints] using hS148) rfl
                clear hS147 hS148 hM
                refine R.ix (m := 0) Try.underlying22 t35 (by decide) hO.row rfl rfl hl1 ?_  -- 149 := indexAddr 22 ('tmp', 142) ('const', ('int', ('i64',), 0))
                refine R.stE (j := 0) (u := v148) t35 hO rfl rfl hR148.one hl1 (fun _ x hx h => (h.2 rfl).2 hx) ?_  -- None := store 35 ('tmp', 149) ('tmp', 148)
                intro w84 hU84 hs84 hO84
                have hR84 := hR148.upS hU84 hO (by decide)
                replace hB8 := hB8.upS hU84 hO (by decide)
                replace hE := hE.app hU84 hMW.f
                have hM := MS.set hMW hu1 ((hU148.mono (fun _ _ h => .inl h)).trans hU84 (fun _ _ h => .inr h)) hO84 hR84 (fun b e => by
                  rcases hd148 with ⟨h1, _⟩ | ⟨b', h1, h2, _⟩
                  · exact .inl (h1 ▸ e)
                  · rw [h1] at e; simp at e; subst e; exact .inr h2) hsM
                clear hMW hO hR148 hd148 hru hO84 hR84
                have hl2 : 0 < (ys.set 0 (ys[0] ++ [999])).length := by simpa using hl1
                have h02 : ((ys.set 0 (ys[0] ++ [999]))[0]'hl2).length = H + 1 := by rw [List.getElem_set_self]; simp [h01]
                replace hrow := sets (i := 0) (xs := ys[0] ++ [999]) hrow (by simp; omega)
                generalize hzs : ys.set 0 (ys[0] ++ [999]) = zs at *
                have hzl : zs.length = i := by rw [← hzs]; simpa using hyl
                replace hF : Fit zs := ⟨by omega, fun xs hx => by have := hrow xs hx; omega⟩
                refine R.nil ?_
                refine E.seq ?_
                refine E.seq ?_
                refine E.forget [(7, .int .i64 (i : Nat)), (8, .pointer (some ⟨b8, 0, none⟩))] ⟨rfl, rfl, trivial⟩ (fun e => ?_)
                refine E.regionP rfl ?_  -- region 37
                refine R.loadA t24 hB8 rfl rfl rfl trivial ?_  -- 150 := load 24 ('tmp', 8)
                refine R.callE2 ent18 (asksF _ hM.mat hF) rfl rfl nofun ?_  -- 151 := call {'callee': ('value', ('func', 18)), 'args': [('tmp', 150), ('const', ('int', ('i64',), 999))], 'argTypes': [24, 3]}
                rintro v151 w17 hx17 rfl
                replace hM := hM.ext hx17
                replace hB8 := hB8.ext hx17
                replace hE := hE.ext hx17
                refine R.not rfl ?_  -- 152 := unOp ('not',) 4 ('tmp', 151)
                obtain ⟨u2, hu2, _⟩ := hM.get 0 hl2
                refine R.nil ?_
                refine E.condF rfl ?_  -- cond t152
                refine E.skip ?_
                refine E.seq ?_
                refine E.forget [(7, .int .i64 (i : Nat)), (8, .pointer (some ⟨b8, 0, none⟩))] ⟨rfl, rfl, trivial⟩ (fun e => ?_)
                refine E.regionW (fun c x => x < w17.heap.size ∧ (c = false → vblk ov ≠ some x)) [158]  mixed rfl (by kernel_rfl) ?_  -- region 39
                intro w18 hx18 hh18
                replace hM := hM.ext hx18
                replace hB8 := hB8.ext hx18
                replace hE := hE.ext hx18
                have hEs : Ext w18 w18 := Upd.refl _
                have hS0 := hx18.size
                have hSB : ∀ b, b < w18.heap.size → b < w17.heap.size ∧ (true = false → (fun x => vblk ov ≠ some x) b) := fun b hb => ⟨by rw [hh18] at hb; exact hb, nofun⟩
                have hSA : ∀ b, b < w18.heap.size → (fun x => vblk ov ≠ some x) b → b < w17.heap.size ∧ (false = false → (fun x => vblk ov ≠ some x) b) := fun b hb h => ⟨by rw [hh18] at hb; exact hb, fun _ => h⟩
                have hMs := hM
                have hB8s := hB8
                refine R.fld fa24_0 rfl ?_  -- 153 := fieldAddr 24 ('tmp', 8) 0
                refine R.loadB t22 (hB8s.ext hEs) rfl rfl rfl (hSA b8 hB8s.lt (hB8.ne_vblk hM.outer (by decide))) ?_  -- 154 := load 22 ('tmp', 153)
                refine R.fld fa24_0 rfl ?_  -- 155 := fieldAddr 24 ('tmp', 8) 0
                refine R.loadB t22 (hB8s.ext hEs) rfl rfl rfl (hSA b8 hB8s.lt (hB8.ne_vblk hM.outer (by decide))) ?_  -- 156 := load 22 ('tmp', 155)
                refine R.ix (m := 0) Try.underlying22 t35 (by decide) hMs.row rfl rfl hl2 ?_  -- 157 := indexAddr 22 ('tmp', 156) ('const', ('int', ('i64',), 0))
                refine R.ldE (j := 0) t35 hMs.row hEs rfl hu2 rfl hSB ?_  -- 158 := load 35 ('tmp', 157)
                refine R.fld fa24_1 rfl ?_  -- 159 := fieldAddr 24 ('tmp', 8) 1
                refine R.loadB t3 (hB8s.ext hEs) rfl rfl rfl (hSA b8 hB8s.lt (hB8.ne_vblk hM.outer (by decide))) ?_  -- 160 := load 3 ('tmp', 159)
                obtain ⟨a161, c161, hv161, hc161, _⟩ := id (hM.rowOf hl2 hu2)  -- 161 := slice 35 ('tmp', 158) ('none',) ('some', ('tmp', 160)) ('none',)
                refine R.slc (l := 0) (r := H) Try.underlying35 t3 rfl hv161 rfl ⟨_, rfl⟩ (Nat.zero_le _) (Nat.le_trans (show H ≤ zs[0].length by omega) hc161) ?_
                refine R.ix (m := 0) Try.underlying22 t35 (by decide) hM.row rfl rfl hl2 ?_  -- 162 := indexAddr 22 ('tmp', 154) ('const', ('int', ('i64',), 0))
                have hru : SInts _ (cut 1 u2 0 (H)) (zs[0].take (H)) := SInts.take (hM.rowOf hl2 hu2) (show H ≤ zs[0].length by omega)  -- None := store 35 ('tmp', 162) ('tmp', 161)
                refine R.stE (j := 0) (u := cut 1 u2 0 (H)) t35 hM.outer rfl rfl hru.one hl2 (fun _ x hx h => h.2 rfl hx) ?_
                intro w85 hU85 hs85 hO85
                have hR85 := hru.upS hU85 hM.outer (by decide)
                replace hB8 := hB8.upS hU85 hM.outer (by decide)
                have hsM := hE.size
                replace hE := hE.app hU85 hM.f
                replace hM := MS.set hM hu2 (hU85.mono (fun _ _ h => .inr h)) hO85 hR85 (fun b e => .inl (vblk_cut e)) hsM
                clear hru hO85 hR85
                have hl3 : 0 < (zs.set 0 (zs[0].take H)).length := by simpa using hl2
                have h03 : ((zs.set 0 (zs[0].take H))[0]'hl3).length = H := by rw [List.getElem_set_self]; simp; omega
                replace hrow := sets (i := 0) (xs := zs[0].take H) hrow (by simp; omega)
                generalize hts : zs.set 0 (zs[0].take H) = ts at *
                have htl : ts.length = i := by rw [← hts]; simpa using hzl
                obtain ⟨u3, hu3, _⟩ := hM.get 0 hl3
                obtain ⟨y, hy⟩ : ∃ y, ([999999, 1000000, 0, 11, -1] : List Int)[i % 5]? = some y := ⟨_, List.getElem?_eq_getElem (by simp; omega)⟩
                refine R.nil ?_
                refine E.seq ?_
                refine E.regionL (fun c x => x < w85.heap.size ∧ (c = false → vblk u3 ≠ some x)) [] [171] mixed rfl (by kernel_rfl) ?_  -- region 40
                intro w19 hx19 hh19
                replace hM := hM.ext hx19
                replace hB8 := hB8.ext hx19
                replace hE := hE.ext hx19
                have hEs : Ext w19 w19 := Upd.refl _
                have hS0 := hx19.size
                have hSB : ∀ b, b < w19.heap.size → b < w85.heap.size ∧ (true = false → (fun x => vblk u3 ≠ some x) b) := fun b hb => ⟨by rw [hh19] at hb; exact hb, nofun⟩
                have hSA : ∀ b, b < w19.heap.size → (fun x => vblk u3 ≠ some x) b → b < w85.heap.size ∧ (false = false → (fun x => vblk u3 ≠ some x) b) := fun b hb h => ⟨by rw [hh19] at hb; exact hb, fun _ => h⟩
                have hMs := hM
                have hB8s := hB8
                refine X.s rfl ?_
                refine R.fld fa24_0 rfl ?_  -- 163 := fieldAddr 24 ('tmp', 8) 0
                refine R.nil ?_
                refine X.s rfl ?_
                refine R.loadB t22 (hB8s.ext hEs) rfl rfl rfl (hSA b8 hB8s.lt (hB8.ne_vblk (hM.rowOf hl3 hu3) (by decide))) ?_  -- 164 := load 22 ('tmp', 163)
                refine R.nil ?_
                refine X.s rfl ?_
                refine R.ix (m := 0) Try.underlying22 t35 (by decide) hMs.row rfl rfl hl3 ?_  -- 165 := indexAddr 22 ('tmp', 164) ('const', ('int', ('i64',), 0))
                refine R.nil ?_
                refine X.s rfl ?_
                refine R.ld (j := 0) t35 hM.row rfl hu3 rfl (fun b hb => hSA b (hMs.outer.blk_lt hb) (fun e => by obtain ⟨_, q1⟩ := (hM.rowOf hl3 hu3).blk e; obtain ⟨_, q2⟩ := hM.outer.blk hb; exact absurd (q1.inj q2).2 (by decide))) ?_  -- 166 := load 35 ('tmp', 165)
                refine R.nil ?_
                refine X.s rfl ?_
                refine R.buildSlice [.int .i64 999999, .int .i64 1000000, .int .i64 0, .int .i64 11, .int .i64 (-1)] Try.underlying35 t3 rfl rfl (by simp [Value.cells]) (by simp) (fun _ _ _ hb => Nat.lt_of_lt_of_le hb.1 (Nat.le_trans hS0 hEs.size)) ?_  -- 167 := buildSlice 35 5 [('tup', 0, ('const', ('int', ('i64',), 999999))), ('tup', 1, ('const', ('int', ('i64',), 1000000))), ('tup', 2, ('const', ('int', ('i64',), 0))), ('tup', 3, ('const', ('int', ('i64',), 11))), ('tup', 4, ('const', ('int', ('i64',), -1)))]
                intro b167 w20 hb167 hx20 hB167 hS167
                replace hb167 := Nat.le_trans hE.size hb167
                replace hM := hM.ext hx20
                replace hB8 := hB8.ext hx20
                replace hE := hE.ext hx20
                replace hEs := hEs.ext hx20
                refine R.nil ?_
                refine X.s rfl ?_
                refine R.move ?_  -- 168 := move ('tmp', 7)
                refine R.nil ?_
                refine X.s rfl ?_
                refine R.remN (m := i) (n := 5) rfl rfl (by omega) ?_  -- 169 := binOp ('rem',) 3 ('tmp', 168) ('const', ('int', ('i64',), 5)) 3
                refine R.nil ?_
                refine X.s rfl ?_
                refine R.ix (m := i % 5) Try.underlying35 t3 (by decide) hS167.row rfl rfl (by simp; omega) ?_  -- 170 := indexAddr 35 ('tmp', 167) ('tmp', 169)
                refine R.nil ?_
                refine X.ld (u := .int .i64 y) (j := i % 5) t3 hS167.row rfl (by show (ints [999999, 1000000, 0, 11, -1])[i % 5]? = _; rw [List.getElem?_map, hy]; rfl) rfl ?_  -- 171 := load 3 ('tmp', 170)
                refine X.s rfl ?_
                refine R.ix (m := 0) Try.underlying35 t3 (by decide) (hM.rowOf hl3 hu3).row rfl rfl (by omega) ?_  -- 172 := indexAddr 35 ('tmp', 166) ('const', ('int', ('i64',), 0))
                refine R.nil ?_
                refine X.s rfl ?_
                have hru := hM.rowOf hl3 hu3  -- None := store 3 ('tmp', 172) ('tmp', 171)
                refine R.stE (j := 0) (u := .int .i64 y) t3 hru rfl rfl rfl (by omega) (fun _ x hx h => h.2 rfl hx) ?_
                intro w86 hU86 hs86 hR86
                have hO86 := hM.outer.upS hU86 hru (by decide)
                replace hB8 := hB8.upS hU86 hru (by decide)
                have hsM := hE.size
                replace hE := hE.app hU86 (hM.fs u3 (List.mem_of_getElem? hu3))
                have hR86 : SInts w86 u3 (ts[0].set 0 y) := by
                  show Sl w86 3 1 u3 (ts[0].set 0 y).length _
                  rw [List.length_set, ← ints_set]; exact hR86
                replace hM := MS.set hM hu3 (hU86.mono (fun _ _ h => .inl h)) (by rw [set_same hu3]; exact hO86) hR86 (fun b e => .inl e) hsM
                replace hF : Fit (ts.set 0 (ts[0].set 0 y)) := ⟨by rw [List.length_set]; omega, sets (fun xs hx => by have := hrow xs hx; omega) (by rw [List.length_set]; omega)⟩
                clear hru hO86 hR86 hS167
                refine R.nil ?_
                refine X.nil ?_
                refine E.seq ?_
                refine E.forget [(7, .int .i64 (i : Nat)), (8, .pointer (some ⟨b8, 0, none⟩))] ⟨rfl, rfl, trivial⟩ (fun e => ?_)
                refine E.regionP rfl ?_  -- region 41
                refine R.loadA t24 hB8 rfl rfl rfl trivial ?_  -- 173 := load 24 ('tmp', 8)
                refine R.callE2 ent18 (asksF _ hM.mat hF) rfl rfl nofun ?_  -- 174 := call {'callee': ('value', ('func', 18)), 'args': [('tmp', 173), ('const', ('int', ('i64',), 11))], 'argTypes': [24, 3]}
                rintro v174 w21 hx21 rfl
                replace hM := hM.ext hx21
                replace hB8 := hB8.ext hx21
                replace hE := hE.ext hx21
                refine R.not rfl ?_  -- 175 := unOp ('not',) 4 ('tmp', 174)
                refine R.move ?_  -- 176 := move ('tmp', 175)
                refine R.gT rfl rfl ?_
                refine R.loadA t24 hB8 rfl rfl rfl trivial ?_  -- 177 := load 24 ('tmp', 8)
                refine R.gT rfl rfl ?_
                refine R.move ?_  -- 178 := move ('tmp', 7)
                refine R.gT rfl rfl ?_
                refine R.sub rfl rfl (by omega) (by omega) ?_  -- 179 := binOp ('sub',) 3 ('tmp', 178) ('const', ('int', ('i64',), 1)) 3
                refine R.gT rfl rfl ?_
                refine R.build build30 rfl ?_  -- 180 := build 30 [('tup', 0, ('const', ('int', ('i64',), 0))), ('tup', 1, ('tmp', 179))]
                refine R.gT rfl rfl ?_
                refine R.move ?_  -- 181 := move ('tmp', 7)
                refine R.gT rfl rfl ?_
                refine R.sub rfl rfl (by omega) (by omega) ?_  -- 182 := binOp ('sub',) 3 ('tmp', 181) ('const', ('int', ('i64',), 1)) 3
                refine R.gT rfl rfl ?_
                refine R.callE4 ent20 (changes _ hM.mat hF) rfl rfl rfl rfl nofun ?_  -- 183 := call {'callee': ('value', ('func', 20)), 'args': [('tmp', 177), ('tmp', 180), ('const', ('int', ('i64',), 999999)), ('tmp', 182)], 'argTypes': [24, 30, 3, 3]}
                rintro v183 w22 hx22 rfl
                replace hM := hM.ext hx22
                replace hB8 := hB8.ext hx22
                replace hE := hE.ext hx22
                refine R.gT rfl rfl ?_
                refine R.not rfl ?_  -- 184 := unOp ('not',) 4 ('tmp', 183)
                refine R.pickF rfl ?_  -- 185 := pick ('tmp', 176) ('const', ('bool', ('true',))) ('tmp', 184)
                refine R.nil ?_
                refine E.condF rfl ?_  -- cond t185
                refine E.skip ?_
                refine E.regionP rfl ?_  -- region 22
                refine R.move ?_  -- 67 := move ('tmp', 7)
                refine R.addN (n := 1) rfl rfl (by omega) ?_  -- 68 := binOp ('add',) 3 ('tmp', 67) ('const', ('int', ('i64',), 1)) 3
                refine R.assign ?_  -- 7 := assign ('tmp', 68)
                refine R.nil ?_
                exact ⟨33 - (i + 1), by omega, i + 1, rfl, by omega, hE, rfl, trivial⟩  -- round end 7 path FTFT
              · replace hc125 := dF hc125
                refine E.skip ?_
                refine E.regionP rfl ?_  -- region 22
                refine R.move ?_  -- 67 := move ('tmp', 7)
                refine R.addN (n := 1) rfl rfl (by omega) ?_  -- 68 := binOp ('add',) 3 ('tmp', 67) ('const', ('int', ('i64',), 1)) 3
                refine R.assign ?_  -- 7 := assign ('tmp', 68)
                refine R.nil ?_
                exact ⟨33 - (i + 1), by omega, i + 1, rfl, by omega, hE, rfl, trivial⟩  -- round end 8 path FTFF
        · replace hc66 := dF hc66
          refine E.exit ?_  -- exit 8
          refine E.seq ?_
          refine E.regionP rfl ?_  -- region 43
          refine R.callE0 ent35 (limits _)  nofun ?_  -- 186 := call {'callee': ('value', ('func', 35)), 'args': [], 'argTypes': []}
          rintro v186 w23 hx23 rfl
          replace hE := hE.ext hx23
          refine R.move ?_  -- 187 := move ('tmp', 186)
          refine R.gT rfl rfl ?_
          refine R.callE0 ent19 (awake _)  nofun ?_  -- 188 := call {'callee': ('value', ('func', 19)), 'args': [], 'argTypes': []}
          rintro v188 w24 hx24 rfl
          replace hE := hE.ext hx24
          refine R.pickT rfl ?_  -- 189 := pick ('tmp', 187) ('tmp', 188) ('const', ('bool', ('false',)))
          refine R.assign ?_  -- 0 := assign ('tmp', 189)
          refine R.nil ?_
          refine E.ret ?_
          exact ret1 (.bool true) rfl rfl ⟨_, rfl, hE, rfl⟩  -- return 0 path FF

end Go.Proofs.Ytfdmndkoiheebaa
