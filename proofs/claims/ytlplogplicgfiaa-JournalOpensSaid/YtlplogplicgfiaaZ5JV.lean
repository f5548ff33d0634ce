import Derived.Test.YtlplogplicgfiaaZ5JU
namespace Go.Proofs.Ytlplogplicgfiaa
open Go Go.RowKit
theorem DM.ok' {w : World} {p : Nat} {vb vd : Value} {d : Dk} (h : DM w p vb vd d) (i : Nat) (hi : i < d.bl.length) : BlockP (d.bl.getD i []) := by
  rw [List.getD_eq_getElem?_getD, List.getElem?_eq_getElem hi]; exact h.ok _ (List.getElem_mem hi)
theorem blocksC_takeD {bl : List (List Nat)} (hb : ∀ b ∈ bl, BlockP b) {i : Nat} (hi : i < bl.length) : ((blocksC bl).drop (i * 64)).take 64 = u8s (bl.getD i []) := by
  rw [blocksC_take hb hi, List.getD_eq_getElem?_getD, List.getElem?_eq_getElem hi]; rfl
theorem bools_getD {xs : List Bool} {i : Nat} (hi : i < xs.length) : (bools xs)[i * 1]? = some (.bool (xs.getD i true)) := by
  rw [Nat.mul_one, bool_at hi, List.getD_eq_getElem?_getD, List.getElem?_eq_getElem hi]; rfl
theorem R.stBad {P : Program} {ops : Array Oper} {S : Bool → Nat → Prop} {dr : Bool} {B : List Nat} {F : Env → World → Prop} {rest : List Oper} {e : Env} {w : World} {od : Option Tmp} {ty : TypeId} {pos : String} {aft : Array Edge} {x y : Operand} {by_ p i : Nat} {z vb vd : Value} {d : Dk} {b : Bool}
    (hk : Ty P 4 1 by_ false z) (hD : DM w p vb vd d) (hx : ev e x = elemPtr vd (i * 1)) (hy : ev e y = .bool b) (hi : i < d.bad.length) (hag : dr = true → ∀ b, vblk vd = some b → ¬ S false b)
    (h : ∀ w', Upd (fun b => vblk vd = some b) w w' → w'.heap.size = w.heap.size → DM w' p vb vd { d with bad := d.bad.set i b } → wpR P ops S dr (kind B) F rest (updo e od undef) w') : wpR P ops S dr (kind B) F (⟨od, .store 4 x y, ty, pos, aft, none⟩ :: rest) e w :=
  R.stE hk hD.bds hx hy rfl hi hag (fun w' hU hs hS => h w' hU hs ⟨hD.blk.upS hU hD.bds (by decide), hD.bls.upS hU hD.bds (by decide), by
    show Sl w' 4 1 vd (d.bad.set i b).length (bools (d.bad.set i b))
    rw [List.length_set, ← bools_set]; exact hS, hD.ok⟩)
def awWant : List Nat := [1, 0, 1, 1, 0, 0, 0, 1, 0, 0, 0, 1, 0, 0, 0, 1, 97] ++ List.replicate 47 0
theorem awWant_ok : BlockP awWant := ⟨rfl, by decide⟩
theorem awWant_eq : pcB awR1 0 = awWant := by decide
theorem bldWant (w : World) : (Instr.build 27 #[(0, .int .u8 ((1 : Nat) : Int)), (2, .int .u8 ((1 : Nat) : Int)), (3, .int .u8 ((1 : Nat) : Int)), (7, .int .u8 ((1 : Nat) : Int)), (11, .int .u8 ((1 : Nat) : Int)), (15, .int .u8 ((1 : Nat) : Int)), (16, .int .u8 ((97 : Nat) : Int))]).run Try.prog w = .ok (.agg (blkV awWant)) w := by
  have e1 : blkV awWant = (((((((Array.replicate 64 (Value.int .u8 0)).setIfInBounds 0 (.int .u8 1)).setIfInBounds 2 (.int .u8 1)).setIfInBounds 3 (.int .u8 1)).setIfInBounds 7 (.int .u8 1)).setIfInBounds 11 (.int .u8 1)).setIfInBounds 15 (.int .u8 1)).setIfInBounds 16 (.int .u8 97) := rfl
  rw [e1]
  simp [Instr.build, t27.zero, underlying, Try.underlying27, t5.sizeOf, Instr.fill, Value.cells]
theorem awO (l : List Rc) (life m : Nat) (b : Bool) (h : (decide (l.length ≤ 2000) && (List.range l.length).all (fun i => decide ((l.getD i Rc0).h.total ≤ 84) && decide ((l.getD i Rc0).h.number = firstN l + i)) && decide (1 ≤ firstN l) && decide (lastN l ≤ 4294967295) && decide (life ≤ 4294967296)) = true) : JOK ⟨l, life, m, b⟩ := by
  simp only [Bool.and_eq_true, decide_eq_true_eq, List.all_eq_true, List.mem_range] at h
  obtain ⟨⟨⟨⟨h1, h2⟩, h3⟩, h4⟩, h5⟩ := h
  exact ⟨h1, fun i hi => (h2 i hi).1, fun i hi => (h2 i hi).2, h3, h4, h5⟩
theorem roomT (w : World) {b901 b900 : Nat} {vl vb vd : Value} {us : List Value} {j : Jn} {d : Dk} {a b c : Int} (hD : DM w b900 vb vd d) (hJ : JM w b901 b900 vl us j) (hO : JOK j) (hp : (decide ((firstN j.live : Int) = a) && decide ((lastN j.live : Int) = b) && decide (roomI d.n j.live = c)) = true) :
    Calls Try.prog 42 #[.pointer (some ⟨b901, 0, none⟩), .int .i64 a, .int .i64 b, .int .i64 c] w (Ret fun r w' => Ext w w' ∧ r = .bool true) := by
  have h := roomB_ w (a := a) (b := b) (c := c) hD hJ hO
  rw [hp] at h; exact h
theorem b8_ok {n : Nat} (h : n < 256) : ∀ x ∈ [n], x < 256 := by simpa using h
set_option maxHeartbeats 1600000 in
theorem awake_ (w : World) : Calls Try.prog 13 #[] w (Ret fun r w' => Ext w w' ∧ r = .bool true) := by
  refine calls_E (args := []) 193 Try.func13 rfl rfl (by simp) ?_
  have hE : Ext w w := Upd.refl w
  refine E.seq ?_
  refine E.regionP rfl ?_
  refine R.assign ?_
  refine R.nil ?_
  refine E.seq ?_
  refine E.regionP rfl ?_
  refine R.callE1 ent20 (newDisk_ _) rfl nofun ?_
  rintro v7 w1 hx1 hN7
  have hE0 := hE
  replace hE := hE.ext hx1
  rw [NRes, if_neg (by decide)] at hN7
  obtain ⟨b900, vb, vd, rfl, hD, hge⟩ := hN7
  replace hge : ∀ x, DB b900 vb vd x → w.heap.size ≤ x := fun x hx => Nat.le_trans hE0.size (hge x hx)
  replace hD : DM _ b900 vb vd awD0 := hD
  refine R.move ?_
  refine R.extract rfl rfl ?_
  refine R.extract rfl rfl ?_
  refine R.assign ?_
  refine R.assign ?_
  refine R.nil ?_
  refine E.seq ?_
  refine E.seq ?_
  refine E.regionP rfl ?_
  refine R.move ?_
  refine R.neq (b := false) rfl rfl (by decide) ?_
  refine R.move ?_
  refine R.gT rfl rfl ?_
  refine R.move ?_
  refine R.gT rfl rfl ?_
  refine R.eqlNil (b := false) Try.underlying32 rfl rfl rfl ?_
  refine R.pickF rfl ?_
  refine R.move ?_
  refine R.gT rfl rfl ?_
  refine R.move ?_
  refine R.gT rfl rfl ?_
  refine R.nilCheck rfl ?_
  refine R.gT rfl rfl ?_
  refine R.fld fa25_0 rfl ?_
  refine R.gT rfl rfl ?_
  refine R.loadB t22 hD.blk rfl rfl rfl trivial ?_
  refine R.gT rfl rfl ?_
  refine R.len Try.underlying22 hD.bls.row rfl ?_
  refine R.gT rfl rfl ?_
  refine R.neq (b := false) rfl rfl (by decide) ?_
  refine R.pickF rfl ?_
  refine R.nil ?_
  refine E.condF rfl ?_
  refine E.skip ?_
  refine E.seq ?_
  refine E.forget [(1, .pointer (some ⟨b900, 0, none⟩))] ⟨rfl, trivial⟩ (fun e => ?_)
  have hEo := hE
  refine E.regionP rfl ?_
  refine R.move ?_
  refine R.call1 ent39 (openP _ hD (by decide) aw_o0) rfl ?_
  rintro v26 w2 ⟨hU2, hDn2, ⟨b901, vl901, us901, rfl, hJ, hpj901⟩⟩
  refine ⟨nofun, ?_⟩
  replace hE := hE.trans hU2 (fun x hx h => by have := hge x h; omega)
  clear hD
  have hD := hDn2
  replace hpj901 := Nat.le_trans hEo.size hpj901
  refine R.move ?_
  refine R.extract rfl rfl ?_
  refine R.extract rfl rfl ?_
  refine R.assign ?_
  refine R.assign ?_
  refine R.nil ?_
  refine E.seq ?_
  refine E.seq ?_
  refine E.regionP rfl ?_
  refine R.move ?_
  refine R.neq (b := false) rfl rfl (by decide) ?_
  refine R.move ?_
  refine R.gT rfl rfl ?_
  refine R.move ?_
  refine R.gT rfl rfl ?_
  refine R.callE4 ent42 (roomT _ hD hJ (awO _ _ _ _ (by decide)) (by decide)) rfl rfl rfl rfl nofun ?_
  rintro v33 w3 hx3 rfl
  replace hD := hD.ext hx3
  replace hJ := hJ.ext hx3
  replace hE := hE.ext hx3
  refine R.gT rfl rfl ?_
  refine R.not rfl ?_
  refine R.pickF rfl ?_
  refine R.nil ?_
  refine E.condF rfl ?_
  refine E.skip ?_
  refine E.seq ?_
  refine E.forget [(1, .pointer (some ⟨b900, 0, none⟩)), (3, .pointer (some ⟨b901, 0, none⟩))] ⟨rfl, rfl, trivial⟩ (fun e => ?_)
  refine E.regionP rfl ?_
  refine R.move ?_
  refine R.buildSlice [.int .u8 ((97 : Nat) : Int)] Try.underlying55 t5 rfl rfl (by simp [Value.cells]) (by simp) nofun ?_
  intro b38 w4 hb38 hx4 hB38 hS38
  have hn_hJ_38 := hJ.new hb38
  replace hb38 := Nat.le_trans hE.size hb38
  replace hD := hD.ext hx4
  replace hJ := hJ.ext hx4
  replace hE := hE.ext hx4
  refine R.convS Try.underlying55 Try.underlying5 rfl (show SU8s _ _ [97] from hS38) nofun ?_
  intro w39 hU39 hr39
  replace hD := hD.upT hU39 hB38 (by decide)
  replace hJ := hJ.upN hU39 hn_hJ_38
  replace hE := hE.own hU39 hb38
  refine R.call3 ent36 (appendP _ hD hJ (hr39) (b8_ok (by decide)) (awO _ _ _ _ (by decide)) (by decide) (by decide) (by decide) (by decide) aw_a1) rfl rfl rfl ?_
  rintro v40 w5 ⟨hU5, hDn5, vl901_1, us901_1, hJn40, rfl⟩
  refine ⟨nofun, ?_⟩
  replace hE := hE.trans hU5 (fun x hx h => by rcases h with rfl | h; omega; have := hge x h; omega)
  clear hD hJ
  have hD := hDn5
  have hJ := hJn40
  refine R.move ?_
  refine R.extract rfl rfl ?_
  refine R.extract rfl rfl ?_
  refine R.assign ?_
  refine R.assign ?_
  refine R.nil ?_
  refine E.seq ?_
  refine E.regionP rfl ?_
  refine R.build bldWant rfl ?_
  refine R.alloc t27 nofun ?_
  intro b5 w6 hb5 hx6 hB5
  have hn_hD_5 := hD.new hb5
  replace hb5 := Nat.le_trans hE.size hb5
  replace hD := hD.ext hx6
  replace hJ := hJ.ext hx6
  replace hE := hE.ext hx6
  replace hB5 : Blk _ b5 27 (Array.replicate 64 (.int .u8 0)) := hB5
  rw [← zeroV] at hB5
  refine R.storeA t27 hB5 rfl rfl (blkV_size zeroB_ok.1) (blkV_size awWant_ok.1) blkV_ones nofun ?_
  intro w7 hU7 hs7 hN7
  replace hD := hD.upN hU7 hn_hD_5
  replace hJ := hJ.upT hU7 hB5 (by decide)
  replace hE := hE.own hU7 hb5
  replace hB5 : Blk _ b5 27 (blkV awWant) := hN7
  refine R.nil ?_
  refine E.seq ?_
  refine E.seq ?_
  refine E.regionW (fun c x => x < w7.heap.size ∧ (c = false → True)) []  mixed rfl (by kernel_rfl) ?_
  intro w8 hx8 hh8
  replace hD := hD.ext hx8
  replace hJ := hJ.ext hx8
  replace hB5 := hB5.ext hx8
  replace hE := hE.ext hx8
  have hEs : Ext w8 w8 := Upd.refl _
  have hS0 := hx8.size
  have hSB : ∀ b, b < w8.heap.size → b < w7.heap.size ∧ (true = false → (fun x => True) b) := fun b hb => ⟨by rw [hh8] at hb; exact hb, nofun⟩
  have hSA : ∀ b, b < w8.heap.size → (fun x => True) b → b < w7.heap.size ∧ (false = false → (fun x => True) b) := fun b hb h => ⟨by rw [hh8] at hb; exact hb, fun _ => h⟩
  have hSO : ∀ b, b < w.heap.size → b < w7.heap.size ∧ (false = false → (fun x => True) b) := fun b hb => hSA b (Nat.lt_of_lt_of_le hb hE.size) (trivial)
  have hDs := hD
  have hJs := hJ
  have hB5s := hB5
  refine R.move ?_
  refine R.neq (b := false) rfl rfl (by decide) ?_
  refine R.move ?_
  refine R.gT rfl rfl ?_
  refine R.move ?_
  refine R.gT rfl rfl ?_
  refine R.neq (b := false) rfl rfl (by decide) ?_
  refine R.pickF rfl ?_
  refine R.move ?_
  refine R.gT rfl rfl ?_
  refine R.move ?_
  refine R.gT rfl rfl ?_
  refine R.callE4 ent42 (roomT _ hD hJ (awO _ _ _ _ (by decide)) (by decide)) rfl rfl rfl rfl (fun _ _ hb => Nat.lt_of_lt_of_le hb.1 (Nat.le_trans hS0 hEs.size)) ?_
  rintro v52 w9 hx9 rfl
  replace hD := hD.ext hx9
  replace hJ := hJ.ext hx9
  replace hB5 := hB5.ext hx9
  replace hE := hE.ext hx9
  replace hEs := hEs.ext hx9
  refine R.gT rfl rfl ?_
  refine R.not rfl ?_
  refine R.pickF rfl ?_
  refine R.move ?_
  refine R.gT rfl rfl ?_
  refine R.move ?_
  refine R.gT rfl rfl ?_
  refine R.nilCheck rfl ?_
  refine R.gT rfl rfl ?_
  refine R.fld fa25_0 rfl ?_
  refine R.gT rfl rfl ?_
  refine R.loadB t22 hD.blk rfl rfl rfl (hSA b900 hDs.blk.lt (trivial)) ?_
  refine R.gT rfl rfl ?_
  refine R.ix (m := 0) Try.underlying22 t27 (by decide) hD.bls.row rfl rfl (by decide) ?_
  refine R.gT rfl rfl ?_
  refine R.loadE t27 (by decide) hD.bls.row rfl (blocksC_takeD hD.ok (i := 0) (by first | omega | decide)) rfl rfl (fun b e => hSA b (hDs.bls.lt b e) (trivial)) ?_
  refine R.gT rfl rfl ?_
  refine R.loadA t27 hB5 rfl (blkV_size awWant_ok.1) rfl (hSA b5 hB5s.lt (trivial)) ?_
  refine R.gT rfl rfl ?_
  refine R.neqA (b' := true) rfl rfl Try.eqGuardType27 (fun w => (eq27 (hD.ok' 0 (by decide)) awWant_ok w).trans (by rw [show awD1.bl.getD 0 [] = awWant from awWant_eq]; rfl)) ?_
  refine R.pickF rfl ?_
  refine R.move ?_
  refine R.gT rfl rfl ?_
  refine R.move ?_
  refine R.gT rfl rfl ?_
  refine R.nilCheck rfl ?_
  refine R.gT rfl rfl ?_
  refine R.fld fa25_0 rfl ?_
  refine R.gT rfl rfl ?_
  refine R.loadB t22 hD.blk rfl rfl rfl (hSA b900 hDs.blk.lt (trivial)) ?_
  refine R.gT rfl rfl ?_
  refine R.ix (m := 4) Try.underlying22 t27 (by decide) hD.bls.row rfl rfl (by decide) ?_
  refine R.gT rfl rfl ?_
  refine R.loadE t27 (by decide) hD.bls.row rfl (blocksC_takeD hD.ok (i := 4) (by first | omega | decide)) rfl rfl (fun b e => hSA b (hDs.bls.lt b e) (trivial)) ?_
  refine R.gT rfl rfl ?_
  refine R.loadA t27 hB5 rfl (blkV_size awWant_ok.1) rfl (hSA b5 hB5s.lt (trivial)) ?_
  refine R.gT rfl rfl ?_
  refine R.neqA (b' := true) rfl rfl Try.eqGuardType27 (fun w => (eq27 (hD.ok' 4 (by decide)) awWant_ok w).trans (by rw [show awD1.bl.getD 4 [] = awWant from awWant_eq]; rfl)) ?_
  refine R.pickF rfl ?_
  refine R.nil ?_
  refine E.condF rfl ?_
  refine E.skip ?_
  refine E.seq ?_
  refine E.seq ?_
  refine E.forget [(1, .pointer (some ⟨b900, 0, none⟩)), (3, .pointer (some ⟨b901, 0, none⟩))] ⟨rfl, rfl, trivial⟩ (fun e => ?_)
  refine E.regionP rfl ?_
  refine R.move ?_
  refine R.makeK (n := 49) (c := 49) Try.underlying55 t5 (by decide) z5 rfl rfl (Nat.le_refl _) (by omega) (by omega) nofun ?_
  intro b77 w10 hb77 hx10 hS77
  have hn_hJ_77 := hJ.new hb77
  replace hb77 := Nat.le_trans hE.size hb77
  replace hD := hD.ext hx10
  replace hJ := hJ.ext hx10
  replace hB5 := hB5.ext hx10
  replace hE := hE.ext hx10
  replace hS77 : SU8s _ (.slice (some ⟨b77, 0, none⟩) 49 49) (List.replicate 49 0) := SU8s.made hS77
  refine R.call3 ent36 (appendP _ hD hJ (RU8.of hS77) (by decide) (awO _ _ _ _ (by decide)) (by decide) (by decide) (by decide) (by decide) aw_a2) rfl rfl rfl ?_
  rintro v78 w11 ⟨hU11, hDn11, vl901_2, us901_2, hJn78, rfl⟩
  refine ⟨nofun, ?_⟩
  replace hS77 := hS77.upA hU11 hD hJ (by decide)
  replace hB5 := hB5.up hU11 (fun e => e.elim (fun e => hJ.blk.ne hB5 (by decide) e.symm) (fun e => hn_hD_5 (DB.flip e)))
  replace hE := hE.trans hU11 (fun x hx h => by rcases h with rfl | h; omega; have := hge x h; omega)
  clear hD hJ
  have hD := hDn11
  have hJ := hJn78
  refine R.move ?_
  refine R.extract rfl rfl ?_
  refine R.extract rfl rfl ?_
  refine R.assign ?_
  refine R.assign ?_
  refine R.nil ?_
  refine E.seq ?_
  refine E.regionP rfl ?_
  refine R.move ?_
  refine R.neq (b := false) rfl rfl (by decide) ?_
  refine R.move ?_
  refine R.gT rfl rfl ?_
  refine R.move ?_
  refine R.gT rfl rfl ?_
  refine R.neq (b := false) rfl rfl (by decide) ?_
  refine R.pickF rfl ?_
  refine R.move ?_
  refine R.gT rfl rfl ?_
  refine R.move ?_
  refine R.gT rfl rfl ?_
  refine R.callE4 ent42 (roomT _ hD hJ (awO _ _ _ _ (by decide)) (by decide)) rfl rfl rfl rfl nofun ?_
  rintro v89 w12 hx12 rfl
  replace hD := hD.ext hx12
  replace hJ := hJ.ext hx12
  replace hS77 := hS77.ext hx12
  replace hB5 := hB5.ext hx12
  replace hE := hE.ext hx12
  refine R.gT rfl rfl ?_
  refine R.not rfl ?_
  refine R.pickF rfl ?_
  refine R.nil ?_
  refine E.condF rfl ?_
  refine E.skip ?_
  refine E.seq ?_
  refine E.seq ?_
  refine E.forget [(1, .pointer (some ⟨b900, 0, none⟩)), (3, .pointer (some ⟨b901, 0, none⟩))] ⟨rfl, rfl, trivial⟩ (fun e => ?_)
  refine E.regionP rfl ?_
  refine R.move ?_
  refine R.buildSlice [.int .u8 ((98 : Nat) : Int)] Try.underlying55 t5 rfl rfl (by simp [Value.cells]) (by simp) nofun ?_
  intro b94 w13 hb94 hx13 hB94 hS94
  have hn_hJ_94 := hJ.new hb94
  replace hb94 := Nat.le_trans hE.size hb94
  replace hD := hD.ext hx13
  replace hJ := hJ.ext hx13
  replace hS77 := hS77.ext hx13
  replace hB5 := hB5.ext hx13
  replace hE := hE.ext hx13
  refine R.convS Try.underlying55 Try.underlying5 rfl (show SU8s _ _ [98] from hS94) nofun ?_
  intro w95 hU95 hr95
  replace hD := hD.upT hU95 hB94 (by decide)
  replace hJ := hJ.upN hU95 hn_hJ_94
  replace hE := hE.own hU95 hb94
  refine R.call3 ent36 (appendP _ hD hJ (hr95) (b8_ok (by decide)) (awO _ _ _ _ (by decide)) (by decide) (by decide) (by decide) (by decide) aw_a3) rfl rfl rfl ?_
  rintro v96 w14 ⟨hU14, hDn14, vl901_3, us901_3, hJn96, rfl⟩
  refine ⟨nofun, ?_⟩
  replace hE := hE.trans hU14 (fun x hx h => by rcases h with rfl | h; omega; have := hge x h; omega)
  clear hD hJ
  have hD := hDn14
  have hJ := hJn96
  refine R.move ?_
  refine R.extract rfl rfl ?_
  refine R.extract rfl rfl ?_
  refine R.assign ?_
  refine R.assign ?_
  refine R.nil ?_
  refine E.seq ?_
  refine E.regionP rfl ?_
  refine R.move ?_
  refine R.neq (b := false) rfl rfl (by decide) ?_
  refine R.move ?_
  refine R.gT rfl rfl ?_
  refine R.move ?_
  refine R.gT rfl rfl ?_
  refine R.neq (b := false) rfl rfl (by decide) ?_
  refine R.pickF rfl ?_
  refine R.move ?_
  refine R.gT rfl rfl ?_
  refine R.move ?_
  refine R.gT rfl rfl ?_
  refine R.callE4 ent42 (roomT _ hD hJ (awO _ _ _ _ (by decide)) (by decide)) rfl rfl rfl rfl nofun ?_
  rintro v107 w15 hx15 rfl
  replace hD := hD.ext hx15
  replace hJ := hJ.ext hx15
  replace hE := hE.ext hx15
  refine R.gT rfl rfl ?_
  refine R.not rfl ?_
  refine R.pickF rfl ?_
  refine R.nil ?_
  refine E.condF rfl ?_
  refine E.skip ?_
  refine E.seq ?_
  refine E.seq ?_
  refine E.forget [(1, .pointer (some ⟨b900, 0, none⟩)), (3, .pointer (some ⟨b901, 0, none⟩))] ⟨rfl, rfl, trivial⟩ (fun e => ?_)
  refine E.regionP rfl ?_
  refine R.move ?_
  refine R.buildSlice [.int .u8 ((99 : Nat) : Int)] Try.underlying55 t5 rfl rfl (by simp [Value.cells]) (by simp) nofun ?_
  intro b112 w16 hb112 hx16 hB112 hS112
  have hn_hJ_112 := hJ.new hb112
  replace hb112 := Nat.le_trans hE.size hb112
  replace hD := hD.ext hx16
  replace hJ := hJ.ext hx16
  replace hE := hE.ext hx16
  refine R.convS Try.underlying55 Try.underlying5 rfl (show SU8s _ _ [99] from hS112) nofun ?_
  intro w113 hU113 hr113
  replace hD := hD.upT hU113 hB112 (by decide)
  replace hJ := hJ.upN hU113 hn_hJ_112
  replace hE := hE.own hU113 hb112
  refine R.call3 ent36 (appendP _ hD hJ (hr113) (b8_ok (by decide)) (awO _ _ _ _ (by decide)) (by decide) (by decide) (by decide) (by decide) aw_a4) rfl rfl rfl ?_
  rintro v114 w17 ⟨hU17, hDn17, vl901_4, us901_4, hJn114, rfl⟩
  refine ⟨nofun, ?_⟩
  replace hE := hE.trans hU17 (fun x hx h => by rcases h with rfl | h; omega; have := hge x h; omega)
  clear hD hJ
  have hD := hDn17
  have hJ := hJn114
  refine R.move ?_
  refine R.extract rfl rfl ?_
  refine R.extract rfl rfl ?_
  refine R.assign ?_
  refine R.assign ?_
  refine R.nil ?_
  refine E.seq ?_
  refine E.regionP rfl ?_
  refine R.move ?_
  refine R.neq (b := false) rfl rfl (by decide) ?_
  refine R.move ?_
  refine R.gT rfl rfl ?_
  refine R.move ?_
  refine R.gT rfl rfl ?_
  refine R.neq (b := false) rfl rfl (by decide) ?_
  refine R.pickF rfl ?_
  refine R.move ?_
  refine R.gT rfl rfl ?_
  refine R.move ?_
  refine R.gT rfl rfl ?_
  refine R.callE4 ent42 (roomT _ hD hJ (awO _ _ _ _ (by decide)) (by decide)) rfl rfl rfl rfl nofun ?_
  rintro v125 w18 hx18 rfl
  replace hD := hD.ext hx18
  replace hJ := hJ.ext hx18
  replace hE := hE.ext hx18
  refine R.gT rfl rfl ?_
  refine R.not rfl ?_
  refine R.pickF rfl ?_
  refine R.nil ?_
  refine E.condF rfl ?_
  refine E.skip ?_
  refine E.seq ?_
  refine E.seq ?_
  refine E.forget [(1, .pointer (some ⟨b900, 0, none⟩)), (3, .pointer (some ⟨b901, 0, none⟩))] ⟨rfl, rfl, trivial⟩ (fun e => ?_)
  refine E.regionP rfl ?_
  refine R.move ?_
  refine R.buildSlice [.int .u8 ((100 : Nat) : Int)] Try.underlying55 t5 rfl rfl (by simp [Value.cells]) (by simp) nofun ?_
  intro b130 w19 hb130 hx19 hB130 hS130
  have hn_hJ_130 := hJ.new hb130
  replace hb130 := Nat.le_trans hE.size hb130
  replace hD := hD.ext hx19
  replace hJ := hJ.ext hx19
  replace hE := hE.ext hx19
  refine R.convS Try.underlying55 Try.underlying5 rfl (show SU8s _ _ [100] from hS130) nofun ?_
  intro w131 hU131 hr131
  replace hD := hD.upT hU131 hB130 (by decide)
  replace hJ := hJ.upN hU131 hn_hJ_130
  replace hE := hE.own hU131 hb130
  refine R.call3 ent36 (appendP _ hD hJ (hr131) (b8_ok (by decide)) (awO _ _ _ _ (by decide)) (by decide) (by decide) (by decide) (by decide) aw_a5) rfl rfl rfl ?_
  rintro v132 w20 ⟨hU20, hDn20, vl901_5, us901_5, hJn132, rfl⟩
  refine ⟨nofun, ?_⟩
  replace hE := hE.trans hU20 (fun x hx h => by rcases h with rfl | h; omega; have := hge x h; omega)
  clear hD hJ
  have hD := hDn20
  have hJ := hJn132
  refine R.move ?_
  refine R.extract rfl rfl ?_
  refine R.extract rfl rfl ?_
  refine R.assign ?_
  refine R.assign ?_
  refine R.nil ?_
  refine E.seq ?_
  refine E.regionP rfl ?_
  refine R.move ?_
  refine R.neq (b := false) rfl rfl (by decide) ?_
  refine R.move ?_
  refine R.gT rfl rfl ?_
  refine R.move ?_
  refine R.gT rfl rfl ?_
  refine R.neq (b := false) rfl rfl (by decide) ?_
  refine R.pickF rfl ?_
  refine R.move ?_
  refine R.gT rfl rfl ?_
  refine R.move ?_
  refine R.gT rfl rfl ?_
  refine R.nilCheck rfl ?_
  refine R.gT rfl rfl ?_
  refine R.fld fa25_1 rfl ?_
  refine R.gT rfl rfl ?_
  refine R.loadB t23 hD.blk rfl rfl rfl trivial ?_
  refine R.gT rfl rfl ?_
  refine R.len Try.underlying23 hD.bds.row rfl ?_
  refine R.gT rfl rfl ?_
  refine R.neq (b := false) rfl rfl (by decide) ?_
  refine R.pickF rfl ?_
  refine R.nil ?_
  refine E.condF rfl ?_
  refine E.skip ?_
  refine E.seq ?_
  refine E.forget [(1, .pointer (some ⟨b900, 0, none⟩))] ⟨rfl, trivial⟩ (fun e => ?_)
  refine E.regionW (fun c x => x < w20.heap.size ∧ (c = false → vblk vd ≠ some x)) []  mixed rfl (by kernel_rfl) ?_
  intro w21 hx21 hh21
  replace hD := hD.ext hx21
  replace hJ := hJ.ext hx21
  replace hE := hE.ext hx21
  have hEs : Ext w21 w21 := Upd.refl _
  have hS0 := hx21.size
  have hSB : ∀ b, b < w21.heap.size → b < w20.heap.size ∧ (true = false → (fun x => vblk vd ≠ some x) b) := fun b hb => ⟨by rw [hh21] at hb; exact hb, nofun⟩
  have hSA : ∀ b, b < w21.heap.size → (fun x => vblk vd ≠ some x) b → b < w20.heap.size ∧ (false = false → (fun x => vblk vd ≠ some x) b) := fun b hb h => ⟨by rw [hh21] at hb; exact hb, fun _ => h⟩
  have hDs := hD
  have hJs := hJ
  refine R.move ?_
  refine R.nilCheck rfl ?_
  refine R.fld fa25_1 rfl ?_
  refine R.loadB t23 hD.blk rfl rfl rfl (hSA b900 hDs.blk.lt (fun e => hDs.blk.ne_vblk hDs.bds (by decide) e)) ?_
  refine R.move ?_
  refine R.nilCheck rfl ?_
  refine R.fld fa25_1 rfl ?_
  refine R.loadB t23 hD.blk rfl rfl rfl (hSA b900 hDs.blk.lt (fun e => hDs.blk.ne_vblk hDs.bds (by decide) e)) ?_
  refine R.ix (m := 1) Try.underlying23 t4 (by decide) hD.bds.row rfl rfl (by decide) ?_
  refine R.stBad (i := 1) (b := true) t4 hD rfl rfl (by decide) (fun _ b e h => h.2 rfl e) ?_
  intro w22 hU22 hs22 hN22
  replace hJ := hJ.upS hU22 hD.bds (by decide)
  replace hE := hE.trans hU22 (fun x hx h => by have := hge x (.inr (.inr h)); omega)
  clear hD
  replace hD : DM _ b900 vb vd (⟨awD4.bl, [false, true, false, false, false, false, false, false], -1, false⟩ : Dk) := hN22
  refine R.ix (m := 6) Try.underlying23 t4 (by decide) hD.bds.row rfl rfl (by decide) ?_
  refine R.stBad (i := 6) (b := true) t4 hD rfl rfl (by decide) (fun _ b e h => h.2 rfl e) ?_
  intro w23 hU23 hs23 hN23
  replace hJ := hJ.upS hU23 hD.bds (by decide)
  replace hE := hE.trans hU23 (fun x hx h => by have := hge x (.inr (.inr h)); omega)
  clear hD
  replace hD : DM _ b900 vb vd awD5 := hN23
  refine R.nil ?_
  refine E.seq ?_
  have hEo := hE
  refine E.regionP rfl ?_
  refine R.move ?_
  refine R.call1 ent39 (openP _ hD (by decide) aw_o5) rfl ?_
  rintro v161 w24 ⟨hU24, hDn24, ⟨b902, vl902, us902, rfl, hJ, hpj902⟩⟩
  refine ⟨nofun, ?_⟩
  replace hE := hE.trans hU24 (fun x hx h => by have := hge x h; omega)
  clear hD
  have hD := hDn24
  replace hpj902 := Nat.le_trans hEo.size hpj902
  refine R.move ?_
  refine R.extract rfl rfl ?_
  refine R.extract rfl rfl ?_
  refine R.assign ?_
  refine R.assign ?_
  refine R.nil ?_
  refine E.seq ?_
  refine E.seq ?_
  refine E.forget [(1, .pointer (some ⟨b900, 0, none⟩)), (2, .int .i64 ((0 : Nat) : Int)), (3, .pointer (some ⟨b902, 0, none⟩))] ⟨rfl, rfl, rfl, trivial⟩ (fun e => ?_)
  refine E.regionP rfl ?_
  refine R.move ?_
  refine R.neq (b := false) rfl rfl (by decide) ?_
  refine R.move ?_
  refine R.gT rfl rfl ?_
  refine R.move ?_
  refine R.gT rfl rfl ?_
  refine R.callE1 ent34 (mended_ _ hJ) rfl nofun ?_
  rintro v168 w25 hx25 rfl
  replace hD := hD.ext hx25
  replace hJ := hJ.ext hx25
  replace hE := hE.ext hx25
  refine R.gT rfl rfl ?_
  refine R.neq (b := false) rfl rfl (by decide) ?_
  refine R.pickF rfl ?_
  refine R.move ?_
  refine R.gT rfl rfl ?_
  refine R.move ?_
  refine R.gT rfl rfl ?_
  refine R.callE4 ent42 (roomT _ hD hJ (awO _ _ _ _ (by decide)) (by decide)) rfl rfl rfl rfl nofun ?_
  rintro v173 w26 hx26 rfl
  replace hD := hD.ext hx26
  replace hJ := hJ.ext hx26
  replace hE := hE.ext hx26
  refine R.gT rfl rfl ?_
  refine R.not rfl ?_
  refine R.pickF rfl ?_
  refine R.nil ?_
  refine E.condF rfl ?_
  refine E.skip ?_
  refine E.seq ?_
  refine E.forget [(1, .pointer (some ⟨b900, 0, none⟩))] ⟨rfl, trivial⟩ (fun e => ?_)
  refine E.regionW (fun c x => x < w26.heap.size ∧ (c = false → vblk vd ≠ some x)) []  mixed rfl (by kernel_rfl) ?_
  intro w27 hx27 hh27
  replace hD := hD.ext hx27
  replace hJ := hJ.ext hx27
  replace hE := hE.ext hx27
  have hEs : Ext w27 w27 := Upd.refl _
  have hS0 := hx27.size
  have hSB : ∀ b, b < w27.heap.size → b < w26.heap.size ∧ (true = false → (fun x => vblk vd ≠ some x) b) := fun b hb => ⟨by rw [hh27] at hb; exact hb, nofun⟩
  have hSA : ∀ b, b < w27.heap.size → (fun x => vblk vd ≠ some x) b → b < w26.heap.size ∧ (false = false → (fun x => vblk vd ≠ some x) b) := fun b hb h => ⟨by rw [hh27] at hb; exact hb, fun _ => h⟩
  have hDs := hD
  have hJs := hJ
  refine R.move ?_
  refine R.nilCheck rfl ?_
  refine R.fld fa25_1 rfl ?_
  refine R.loadB t23 hD.blk rfl rfl rfl (hSA b900 hDs.blk.lt (fun e => hDs.blk.ne_vblk hDs.bds (by decide) e)) ?_
  refine R.move ?_
  refine R.nilCheck rfl ?_
  refine R.fld fa25_1 rfl ?_
  refine R.loadB t23 hD.blk rfl rfl rfl (hSA b900 hDs.blk.lt (fun e => hDs.blk.ne_vblk hDs.bds (by decide) e)) ?_
  refine R.ix (m := 1) Try.underlying23 t4 (by decide) hD.bds.row rfl rfl (by decide) ?_
  refine R.stBad (i := 1) (b := true) t4 hD rfl rfl (by decide) (fun _ b e h => h.2 rfl e) ?_
  intro w28 hU28 hs28 hN28
  replace hJ := hJ.upS hU28 hD.bds (by decide)
  replace hE := hE.trans hU28 (fun x hx h => by have := hge x (.inr (.inr h)); omega)
  clear hD
  replace hD : DM _ b900 vb vd (⟨awD4.bl, [false, true, false, false, false, false, false, false], -1, false⟩ : Dk) := hN28
  refine R.ix (m := 5) Try.underlying23 t4 (by decide) hD.bds.row rfl rfl (by decide) ?_
  refine R.stBad (i := 5) (b := true) t4 hD rfl rfl (by decide) (fun _ b e h => h.2 rfl e) ?_
  intro w29 hU29 hs29 hN29
  replace hJ := hJ.upS hU29 hD.bds (by decide)
  replace hE := hE.trans hU29 (fun x hx h => by have := hge x (.inr (.inr h)); omega)
  clear hD
  replace hD : DM _ b900 vb vd awD6 := hN29
  refine R.nil ?_
  refine E.seq ?_
  refine E.regionP rfl ?_
  refine R.move ?_
  refine R.call1 ent39 (openP _ hD (by decide) aw_o6) rfl ?_
  rintro v188 w30 ⟨hU30, hDn30, hR188⟩
  refine ⟨nofun, ?_⟩
  replace hE := hE.trans hU30 (fun x hx h => by have := hge x h; omega)
  clear hD
  have hD := hDn30
  replace hR188 : _ = Value.tuple #[.pointer none, .int .i64 ((421 : Nat) : Int)] := hR188
  subst hR188
  refine R.move ?_
  refine R.extract rfl rfl ?_
  refine R.extract rfl rfl ?_
  refine R.assign ?_
  refine R.nil ?_
  refine E.seq ?_
  refine E.forget [(2, .int .i64 ((421 : Nat) : Int))] ⟨rfl, trivial⟩ (fun e => ?_)
  refine E.regionP rfl ?_
  refine R.move ?_
  refine R.eql (b := true) rfl rfl (by decide) ?_
  refine R.assign ?_
  refine R.nil ?_
  refine E.ret ?_
  refine ret1 (.bool (true)) rfl rfl ⟨_, rfl, ?_⟩
  exact ⟨hE, rfl⟩
end Go.Proofs.Ytlplogplicgfiaa
