import Derived.Test.YtlplogplicgfiaaZ12KS
namespace Go.Proofs.Ytlplogplicgfiaa
open Go Go.RowKit
theorem append_arg {d : Dk} {j : Jn} {rec : List Nat} {f : Int} (hd : j.down = false) (hl : rec.length ≤ 4032) (h : f < (firstN j.live : Int) ∨ (lastN j.live : Int) + 1 < f) : appendL d j rec f = (d, j, 0, 2) := by
  unfold appendL
  rw [if_neg (by rw [hd]; simp), if_neg (by omega), if_pos h]
theorem append_long {d : Dk} {j : Jn} {rec : List Nat} {f : Int} (hd : j.down = false) (hl : 4032 < rec.length) : appendL d j rec f = (d, j, 0, 3) := by
  unfold appendL
  rw [if_neg (by rw [hd]; simp), if_pos hl]
theorem nres_no {w w' : World} {r : Value} {n : Int} (h : NRes w w' r n) (hn : n < 4 ∨ 1000 < n) : r = .tuple #[.pointer none, .int .i64 ((2 : Nat) : Int)] := by
  unfold NRes at h
  rwa [if_pos hn] at h
def oneB : List Nat := 1 :: List.replicate 63 0
theorem oneB_ok : BlockP oneB := ⟨rfl, by decide⟩
theorem bldOne (w : World) : (Instr.build 27 #[(0, .int .u8 ((1 : Nat) : Int))]).run Try.prog w = .ok (.agg (blkV oneB)) w := by
  have e1 : blkV oneB = (Array.replicate 64 (Value.int .u8 0)).setIfInBounds 0 (.int .u8 1) := rfl
  rw [e1]
  simp [Instr.build, t27.zero, underlying, Try.underlying27, t5.sizeOf, Instr.fill, Value.cells]
theorem R.maxZ {P : Program} {ops : Array Oper} {S : Bool → Nat → Prop} {dr : Bool} {B : List Nat} {F : Env → World → Prop} {rest : List Oper} {e : Env} {w : World} {d : Tmp} {ty : TypeId} {pos : String} {aft : Array Edge} {x y : Operand} {ats : Array TypeId} {m n : Int} (hx : ev e x = .int .i64 m) (hy : ev e y = .int .i64 n)
    (h : wpR P ops S dr (kind B) F rest (upd e d (.int .i64 (max m n))) w) : wpR P ops S dr (kind B) F (⟨some d, .call { callee := .builtin .max, args := #[x, y], argTypes := ats }, ty, pos, aft, none⟩ :: rest) e w := by
  refine R.quiet (.int .i64 (max m n)) rfl (fun w' _ => ?_) h
  simp [execOp, resolve, invoke, builtin, hx, hy, run_max_int2]
  split <;> omega
theorem writeOut (w : World) {b900 : Nat} {vb vd : Value} {d : Dk} {i : Int} {b : List Nat} (hD : DM w b900 vb vd d) (hb : BlockP b) (hpw : d.pw ≤ 9223372036854775807) (ho : i < 0 ∨ 2 * (d.n : Int) ≤ i) :
    Calls Try.prog 17 #[.pointer (some ⟨b900, 0, none⟩), .int .i64 i, .agg (blkV b)] w (Ret fun r w' => Upd (DB b900 vb vd) w w' ∧ DM w' b900 vb vd d ∧ r = .bool false) := by
  have h := write_ w hD (i := i) hb hpw
  rw [Dk.write_out ho] at h
  exact h
theorem bld25_0_1 {x0 x1 : Value} (hx0 : x0.oneCell' = true) (hx1 : x1.oneCell' = true) (w : World) : (Instr.build 25 #[(0, x0), (1, x1)]).run Try.prog w = .ok (.agg #[x0, x1, (.int .i64 0), (.bool false)]) w := by
  simp [Instr.build, t25.zero, underlying, Try.underlying25, Instr.fill, cells_agg, t22.sizeOf, t23.sizeOf, cells_one hx0, cells_one hx1]
set_option maxHeartbeats 1600000 in
theorem journalWrong (w : World) {pl : Nat} {v : Value} {l : List Stp} {z0 : Int} (hr : Row w 5 v l.length (stpsC l)) (hl : ∀ x ∈ l, okS x) (hpl : pl < 256) (hll : l.length ≤ 9223372036854775807) (hn1 : -9223372036854775808 ≤ z0) (hn2 : z0 ≤ 9223372036854775807) :
    Calls Try.prog 12 #[.int .u8 (pl : Nat), v, .int .i64 z0] w (Ret fun r w' => Ext w w' ∧ r = .bool true) := by
  refine calls_E (args := [.int .u8 ((pl : Nat) : Int), v, .int .i64 (z0)]) 265 Try.func12 rfl rfl (by simp) ?_
  have hE : Ext w w := Upd.refl w
  refine E.seq ?_
  refine E.regionP rfl ?_
  refine R.assign ?_
  refine R.nil ?_
  refine E.seq ?_
  refine E.regionP rfl ?_
  refine R.move ?_
  refine R.move ?_
  refine R.callE2 ent33 (kept_ _ (fun _ _ _ => True) (hr.ext hE) hl hpl hll trivial (fun _ _ _ _ _ _ _ _ _ _ _ _ _ _ => trivial)) rfl rfl nofun ?_
  rintro v33 w1 hx1 ⟨b902, s, j, ii, hi30, rfl, hG, hK, _⟩
  have hsz0 := hE.size
  replace hE := hE.ext hx1
  obtain ⟨b900, vb, vd, b901, vl, us, hS, hJ, hb902, hb901, hge0⟩ := hG
  obtain ⟨⟨vL, uL, vp, hB902, hV, hP⟩, hD⟩ := hS
  have hge : ∀ x, AB b901 b900 vb vd x → w.heap.size ≤ x := by
    rintro x (rfl | h)
    · exact Nat.le_trans hsz0 hb901
    · exact Nat.le_trans hsz0 (hge0 x h)
  have hI := hK.inv
  have hdn := hK.dn
  have hpw1 := hK.pw
  have hH := hI.h
  have hlen := hH.len
  have hlst := hH.lst
  have hfst := hH.fst
  have hf1 := hH.ok.fst
  have hnum := hK.num
  have hbn := Dk.n_pos (d := s.d) (by omega)
  have hTS := totalL_S hI
  have hfr0 := hI.free
  unfold freeI at hfr0
  have hat : ∀ i, i < j.live.length → (j.live.getD i Rc0).at_ ≤ 1000000 := fun i hi => by have := hI.at_ i hi; omega
  replace hb902 := Nat.le_trans hsz0 hb902
  replace hb901 := Nat.le_trans hsz0 hb901
  refine R.move ?_
  refine R.extract rfl rfl ?_
  refine R.extract rfl rfl ?_
  refine R.assign ?_
  refine R.assign ?_
  refine R.nil ?_
  refine E.seq ?_
  refine E.seq ?_
  refine E.regionP rfl ?_
  refine R.move ?_
  refine R.not rfl ?_
  refine R.nil ?_
  refine E.condF rfl ?_
  refine E.skip ?_
  refine E.seq ?_
  refine E.regionP rfl ?_
  refine R.move ?_
  refine R.minZ (m := z0) (n := 3) rfl rfl ?_
  refine R.callE1 ent20 (newDisk_ _) rfl nofun ?_
  rintro v41 w2 hx2 hT41
  replace hD := hD.ext hx2
  replace hJ := hJ.ext hx2
  replace hV := hV.ext hx2
  replace hP := hP.ext hx2
  replace hB902 := hB902.ext hx2
  replace hE := hE.ext hx2
  replace hT41 := nres_no hT41 (by omega)
  subst hT41
  refine R.move ?_
  refine R.extract rfl rfl ?_
  refine R.extract rfl rfl ?_
  refine R.assign ?_
  refine R.assign ?_
  refine R.nil ?_
  refine E.seq ?_
  refine E.forget [(2, .int .i64 (z0)), (7, .pointer (some ⟨b902, 0, none⟩)), (9, .pointer none), (10, .int .i64 ((2 : Nat) : Int))] ⟨rfl, rfl, rfl, rfl, trivial⟩ (fun e => ?_)
  refine E.regionP rfl ?_
  refine R.move ?_
  refine R.maxZ (m := z0) (n := 1001) rfl rfl ?_
  refine R.callE1 ent20 (newDisk_ _) rfl nofun ?_
  rintro v47 w3 hx3 hT47
  replace hD := hD.ext hx3
  replace hJ := hJ.ext hx3
  replace hV := hV.ext hx3
  replace hP := hP.ext hx3
  replace hB902 := hB902.ext hx3
  replace hE := hE.ext hx3
  replace hT47 := nres_no hT47 (by omega)
  subst hT47
  refine R.move ?_
  refine R.extract rfl rfl ?_
  refine R.extract rfl rfl ?_
  refine R.assign ?_
  refine R.assign ?_
  refine R.nil ?_
  refine E.seq ?_
  refine E.regionP rfl ?_
  refine R.callE1 ent39 (openN_ _) rfl nofun ?_
  rintro v51 w4 hx4 rfl
  replace hD := hD.ext hx4
  replace hJ := hJ.ext hx4
  replace hV := hV.ext hx4
  replace hP := hP.ext hx4
  replace hB902 := hB902.ext hx4
  replace hE := hE.ext hx4
  refine R.move ?_
  refine R.extract rfl rfl ?_
  refine R.extract rfl rfl ?_
  refine R.assign ?_
  refine R.assign ?_
  refine R.nil ?_
  refine E.seq ?_
  have hW0 := hE.size
  refine E.regionF (fun c x => x < w4.heap.size ∧ (c = false → True)) [] [59] mixed rfl (by kernel_rfl) (fun _ _ h => h.1) ?_
  intro w5 hx5 hh5
  replace hD := hD.ext hx5
  replace hJ := hJ.ext hx5
  replace hV := hV.ext hx5
  replace hP := hP.ext hx5
  replace hB902 := hB902.ext hx5
  replace hE := hE.ext hx5
  have hEs : Ext w5 w5 := Upd.refl _
  have hS0 := hx5.size
  have hSB : ∀ b, b < w5.heap.size → b < w4.heap.size ∧ (true = false → (fun x => True) b) := fun b hb => ⟨by rw [hh5] at hb; exact hb, nofun⟩
  have hSA : ∀ b, b < w5.heap.size → (fun x => True) b → b < w4.heap.size ∧ (false = false → (fun x => True) b) := fun b hb h => ⟨by rw [hh5] at hb; exact hb, fun _ => h⟩
  have hSO : ∀ b, b < w.heap.size → b < w4.heap.size ∧ (false = false → (fun x => True) b) := fun b hb => hSA b (Nat.lt_of_lt_of_le hb hE.size) (trivial)
  have hDs := hD
  have hJs := hJ
  have hVs := hV
  have hPs := hP
  have hB902s := hB902
  refine G.make (n := 8) (c := 8) Try.underlying22 t27 (by decide) z27 rfl rfl (Nat.le_refl _) (by omega) (by omega) ?_
  intro w6 b55 K6 hx6 hb55 hn55 hK6 hk55 hS55
  have hn055 := hb55
  replace hb55 := Nat.le_trans hW0 hb55
  replace hD := hD.ext hx6
  replace hJ := hJ.ext hx6
  replace hV := hV.ext hx6
  replace hP := hP.ext hx6
  replace hB902 := hB902.ext hx6
  replace hE := hE.ext hx6
  replace hEs := hEs.ext hx6
  refine G.make (n := 7) (c := 7) Try.underlying23 t4 (by decide) z4 rfl rfl (Nat.le_refl _) (by omega) (by omega) ?_
  intro w7 b56 K7 hx7 hb56 hn56 hK7 hk56 hS56
  replace hk55 := hK7 _ hk55
  have hn056 := hb56
  replace hb56 := Nat.le_trans hW0 hb56
  replace hD := hD.ext hx7
  replace hJ := hJ.ext hx7
  replace hV := hV.ext hx7
  replace hP := hP.ext hx7
  replace hS55 := hS55.ext hx7
  replace hB902 := hB902.ext hx7
  replace hE := hE.ext hx7
  replace hEs := hEs.ext hx7
  refine G.q rfl (Nat.le_of_ble_eq_true rfl) ?_
  refine R.build (bld25_0_1 hS55.one hS56.one) rfl ?_
  refine R.nil ?_
  refine G.l rfl rfl (.inl rfl) (Nat.le_of_ble_eq_true rfl) ?_
  intro w8 hx8
  replace hD := hD.ext hx8
  replace hJ := hJ.ext hx8
  replace hV := hV.ext hx8
  replace hP := hP.ext hx8
  replace hS55 := hS55.ext hx8
  replace hS56 := hS56.ext hx8
  replace hB902 := hB902.ext hx8
  replace hE := hE.ext hx8
  replace hEs := hEs.ext hx8
  refine R.box rfl (fun _ _ _ hb => G.S1_lt (fun _ _ h => h.1) (Nat.le_trans hS0 hEs.size) hb) ?_
  intro b58 w9 hb58 hx9 hB58
  have ne58_900 : b58 ≠ b900 := by have := hD.blk.lt; omega
  have hn_hD_58 := hD.new hb58
  replace hb58 := Nat.le_trans hE.size hb58
  replace hD := hD.ext hx9
  replace hJ := hJ.ext hx9
  replace hV := hV.ext hx9
  replace hP := hP.ext hx9
  replace hS55 := hS55.ext hx9
  replace hS56 := hS56.ext hx9
  replace hB902 := hB902.ext hx9
  replace hE := hE.ext hx9
  replace hEs := hEs.ext hx9
  replace hB58 : Blk _ b58 25 #[.slice (some ⟨b55, 0, none⟩) 8 8, .slice (some ⟨b56, 0, none⟩) 7 7, .int .i64 ((0 : Nat) : Int), .bool (false)] := hB58
  refine R.nil ⟨hx9.size, ?_⟩
  intro K8 hK8 hN8
  replace hk55 := hK8 _ hk55
  replace hk56 := hK8 _ hk56
  refine G.l rfl rfl (.inl rfl) (Nat.le_of_ble_eq_true rfl) ?_
  intro w10 hx10
  replace hD := hD.ext hx10
  replace hJ := hJ.ext hx10
  replace hV := hV.ext hx10
  replace hP := hP.ext hx10
  replace hS55 := hS55.ext hx10
  replace hS56 := hS56.ext hx10
  replace hB902 := hB902.ext hx10
  replace hB58 := hB58.ext hx10
  replace hE := hE.ext hx10
  replace hEs := hEs.ext hx10
  refine R.callE1 ent39 (openZ_ _ (d := ⟨List.replicate 8 zeroB, List.replicate 7 false, 0, false⟩) ⟨hB58, (by show Sl _ 27 64 _ 8 (blocksC (List.replicate 8 zeroB)); rw [blocksC_rep]; exact hS55), hS56, fun b hb => (List.mem_replicate.1 hb).2 ▸ zeroB_ok⟩ (by decide)) rfl (fun _ _ hb => G.S1_lt (fun _ _ h => h.1) (Nat.le_trans hS0 hEs.size) hb) ?_
  rintro v59 w11 hx11 rfl
  replace hD := hD.ext hx11
  replace hJ := hJ.ext hx11
  replace hV := hV.ext hx11
  replace hP := hP.ext hx11
  replace hS55 := hS55.ext hx11
  replace hS56 := hS56.ext hx11
  replace hB902 := hB902.ext hx11
  replace hB58 := hB58.ext hx11
  replace hE := hE.ext hx11
  replace hEs := hEs.ext hx11
  refine R.nil ⟨hx11.size, ?_⟩
  intro K10 hK10 hN10
  replace hk55 := hK10 _ hk55
  replace hk56 := hK10 _ hk56
  refine G.q rfl (Nat.le_of_ble_eq_true rfl) ?_
  refine R.move ?_
  refine R.nil ?_
  refine G.q rfl (Nat.le_of_ble_eq_true rfl) ?_
  refine R.extract rfl rfl ?_
  refine R.nil ?_
  refine G.q rfl (Nat.le_of_ble_eq_true rfl) ?_
  refine R.extract rfl rfl ?_
  refine R.nil ?_
  refine G.q rfl (Nat.le_of_ble_eq_true rfl) ?_
  refine R.assign ?_
  refine R.nil ?_
  refine G.q rfl (Nat.le_of_ble_eq_true rfl) ?_
  refine R.assign ?_
  refine R.nil ?_
  refine G.nil ?_
  refine E.seq ?_
  refine E.seq ?_
  refine E.forget [(2, .int .i64 (z0)), (7, .pointer (some ⟨b902, 0, none⟩)), (9, .pointer none), (10, .int .i64 ((2 : Nat) : Int)), (11, .pointer none), (12, .int .i64 ((2 : Nat) : Int)), (13, .pointer none), (14, .int .i64 ((2 : Nat) : Int)), (15, .pointer none), (16, .int .i64 ((2 : Nat) : Int))] ⟨rfl, rfl, rfl, rfl, rfl, rfl, rfl, rfl, rfl, rfl, trivial⟩ (fun e => ?_)
  refine E.regionP rfl ?_
  refine R.move ?_
  refine R.neqNil (b := false) Try.underlying32 rfl rfl rfl ?_
  refine R.move ?_
  refine R.gT rfl rfl ?_
  refine R.move ?_
  refine R.gT rfl rfl ?_
  refine R.neqNil (b := false) Try.underlying32 rfl rfl rfl ?_
  refine R.pickF rfl ?_
  refine R.move ?_
  refine R.gT rfl rfl ?_
  refine R.move ?_
  refine R.gT rfl rfl ?_
  refine R.neqNil (b := false) Try.underlying66 rfl rfl rfl ?_
  refine R.pickF rfl ?_
  refine R.move ?_
  refine R.gT rfl rfl ?_
  refine R.move ?_
  refine R.gT rfl rfl ?_
  refine R.neqNil (b := false) Try.underlying66 rfl rfl rfl ?_
  refine R.pickF rfl ?_
  refine R.move ?_
  refine R.gT rfl rfl ?_
  refine R.move ?_
  refine R.gT rfl rfl ?_
  refine R.neq (b := false) rfl rfl (by decide) ?_
  refine R.pickF rfl ?_
  refine R.move ?_
  refine R.gT rfl rfl ?_
  refine R.move ?_
  refine R.gT rfl rfl ?_
  refine R.neq (b := false) rfl rfl (by decide) ?_
  refine R.pickF rfl ?_
  refine R.move ?_
  refine R.gT rfl rfl ?_
  refine R.move ?_
  refine R.gT rfl rfl ?_
  refine R.neq (b := false) rfl rfl (by decide) ?_
  refine R.pickF rfl ?_
  refine R.move ?_
  refine R.gT rfl rfl ?_
  refine R.move ?_
  refine R.gT rfl rfl ?_
  refine R.neq (b := false) rfl rfl (by decide) ?_
  refine R.pickF rfl ?_
  refine R.nil ?_
  refine E.condF rfl ?_
  refine E.skip ?_
  refine E.seq ?_
  refine E.seq ?_
  refine E.forget [(2, .int .i64 (z0)), (7, .pointer (some ⟨b902, 0, none⟩))] ⟨rfl, rfl, trivial⟩ (fun e => ?_)
  refine E.regionP rfl ?_
  refine R.alloc t86 nofun ?_
  intro b92 w12 hb92 hx12 hB92
  have ne92_901 : b92 ≠ b901 := by have := hJ.blk.lt; omega
  have hn_hJ_92 := hJ.new hb92
  replace hb92 := Nat.le_trans hE.size hb92
  replace hD := hD.ext hx12
  replace hJ := hJ.ext hx12
  replace hV := hV.ext hx12
  replace hP := hP.ext hx12
  replace hS55 := hS55.ext hx12
  replace hS56 := hS56.ext hx12
  replace hB902 := hB902.ext hx12
  replace hB58 := hB58.ext hx12
  replace hE := hE.ext hx12
  replace hB92 : Blk _ b92 86 #[.pointer none, .slice none 0 0, .int .i64 ((0 : Nat) : Int), .int .i64 ((0 : Nat) : Int), .bool (false)] := hB92
  refine R.buildSlice [.pointer none, .pointer (some ⟨b92, 0, none⟩)] Try.underlying87 t66 rfl rfl (by simp [Value.cells]) (by simp) nofun ?_
  intro b93 w13 hb93 hx13 hB93 hS93
  replace hb93 := Nat.le_trans hE.size hb93
  replace hD := hD.ext hx13
  replace hJ := hJ.ext hx13
  replace hV := hV.ext hx13
  replace hP := hP.ext hx13
  replace hS55 := hS55.ext hx13
  replace hS56 := hS56.ext hx13
  replace hB902 := hB902.ext hx13
  replace hB58 := hB58.ext hx13
  replace hB92 := hB92.ext hx13
  replace hE := hE.ext hx13
  refine R.len Try.underlying87 hS93.row rfl ?_
  refine R.move ?_
  refine R.nil ?_
  refine E.block ?_
  refine E.loop (fun n e wr => ∃ (i : Nat), n = 2 - i ∧ i ≤ 2 ∧ DM wr b900 vb vd s.d ∧ JM wr b901 b900 vl us j ∧ LvM wr vL uL s.live ∧ SU8s wr vp s.pend ∧ Sl wr 66 1 (.slice (some ⟨b93, 0, none⟩) 2 2) 2 [.pointer none, .pointer (some ⟨b92, 0, none⟩)] ∧ Blk wr b902 69 #[.pointer (some ⟨b900, 0, none⟩), .pointer (some ⟨b901, 0, none⟩), vL, .int .i64 ((s.first : Nat) : Int), vp, .bool (s.waits), .int .i64 ((s.frm : Nat) : Int), .int .i64 ((s.cnt : Nat) : Int)] ∧ Blk wr b58 25 #[.slice (some ⟨b55, 0, none⟩) 8 8, .slice (some ⟨b56, 0, none⟩) 7 7, .int .i64 ((0 : Nat) : Int), .bool (false)] ∧ Blk wr b92 86 #[.pointer none, .slice none 0 0, .int .i64 ((0 : Nat) : Int), .int .i64 ((0 : Nat) : Int), .bool (false)] ∧ Ext w wr ∧ Has e [(2, .int .i64 (z0)), (7, .pointer (some ⟨b902, 0, none⟩)), (93, .slice (some ⟨b93, 0, none⟩) 2 2), (94, .int .i64 ((2 : Nat) : Int)), (95, .int .i64 ((i : Nat) : Int))]) (2) ?_ ?_
  · exact ⟨0, rfl, by omega, hD, hJ, hV, hP, hS93, hB902, hB58, hB92, hE, rfl, rfl, rfl, rfl, rfl, trivial⟩
  · rintro n e wr ⟨i, rfl, hi, hD, hJ, hV, hP, hS93, hB902, hB58, hB92, hE, hH⟩
    obtain ⟨e, rfl⟩ := hH.ex
    clear hH
    refine E.seq ?_
    refine E.regionP rfl ?_
    refine R.lss (b := decide ((((i : Nat) : Int)) < (((2 : Nat) : Int)))) rfl rfl rfl ?_
    refine R.nil ?_
    refine E.seq ?_
    refine E.cond (b := decide ((((i : Nat) : Int)) < (((2 : Nat) : Int)))) rfl (fun hc96 => ?_) (fun hc96 => ?_)
    · replace hc96 := dT hc96
      refine E.skip ?_
      refine E.seq ?_
      refine E.block ?_
      refine E.seq ?_
      refine E.regionP rfl ?_
      refine R.ix (m := i) Try.underlying87 t66 (by decide) hS93.row rfl rfl (by show i < 2; omega) ?_
      have hN : NoJ wr ([Value.pointer none, .pointer (some ⟨b92, 0, none⟩)].getD i undef) := by
        rcases (show i = 0 ∨ i = 1 by omega) with rfl | rfl
        · exact .inl rfl
        · exact .inr ⟨_, rfl, hB92⟩
      refine R.load (u := ([Value.pointer none, .pointer (some ⟨b92, 0, none⟩)].getD i undef)) t66 hS93.row rfl (by rcases (show i = 0 ∨ i = 1 by omega) with rfl | rfl <;> rfl) rfl (fun _ _ => trivial) ?_
      refine R.assign ?_
      refine R.nil ?_
      refine E.seq ?_
      refine E.regionP rfl ?_
      refine R.move ?_
      refine R.callE3 ent36 (appendN_ _ hN (RU8.of (show SU8s _ (.slice none 0 0) [] from Sl.nil _ _ _)) (by decide)) rfl rfl rfl nofun ?_
      rintro v101 w14 hx14 rfl
      replace hD := hD.ext hx14
      replace hJ := hJ.ext hx14
      replace hV := hV.ext hx14
      replace hP := hP.ext hx14
      replace hS93 := hS93.ext hx14
      replace hN := hN.ext hx14
      replace hB902 := hB902.ext hx14
      replace hB58 := hB58.ext hx14
      replace hB92 := hB92.ext hx14
      replace hE := hE.ext hx14
      refine R.move ?_
      refine R.extract rfl rfl ?_
      refine R.extract rfl rfl ?_
      refine R.assign ?_
      refine R.assign ?_
      refine R.nil ?_
      refine E.seq ?_
      refine E.regionP rfl ?_
      refine R.move ?_
      refine R.callE2 ent41 (getN_ _ hN) rfl rfl nofun ?_
      rintro v106 w15 hx15 rfl
      replace hD := hD.ext hx15
      replace hJ := hJ.ext hx15
      replace hV := hV.ext hx15
      replace hP := hP.ext hx15
      replace hS93 := hS93.ext hx15
      replace hN := hN.ext hx15
      replace hB902 := hB902.ext hx15
      replace hB58 := hB58.ext hx15
      replace hB92 := hB92.ext hx15
      replace hE := hE.ext hx15
      refine R.move ?_
      refine R.extract rfl rfl ?_
      refine R.extract rfl rfl ?_
      refine R.assign ?_
      refine R.assign ?_
      refine R.nil ?_
      refine E.seq ?_
      refine E.forget [(2, .int .i64 (z0)), (7, .pointer (some ⟨b902, 0, none⟩)), (18, ([Value.pointer none, .pointer (some ⟨b92, 0, none⟩)].getD i undef)), (19, .int .i64 ((0 : Nat) : Int)), (20, .int .i64 ((1 : Nat) : Int)), (21, .slice none 0 0), (22, .bool (false)), (93, .slice (some ⟨b93, 0, none⟩) 2 2), (94, .int .i64 ((2 : Nat) : Int)), (95, .int .i64 ((i : Nat) : Int))] ⟨rfl, rfl, rfl, rfl, rfl, rfl, rfl, rfl, rfl, rfl, trivial⟩ (fun e => ?_)
      refine E.regionP rfl ?_
      refine R.move ?_
      refine R.neq (b := false) rfl rfl (by decide) ?_
      refine R.move ?_
      refine R.gT rfl rfl ?_
      refine R.move ?_
      refine R.gT rfl rfl ?_
      refine R.neq (b := false) rfl rfl (by decide) ?_
      refine R.pickF rfl ?_
      refine R.move ?_
      refine R.gT rfl rfl ?_
      refine R.move ?_
      refine R.gT rfl rfl ?_
      refine R.lenV Try.underlying55 rfl ?_
      refine R.gT rfl rfl ?_
      refine R.neq (b := false) rfl rfl (by decide) ?_
      refine R.pickF rfl ?_
      refine R.move ?_
      refine R.gT rfl rfl ?_
      refine R.move ?_
      refine R.pickF rfl ?_
      refine R.move ?_
      refine R.gT rfl rfl ?_
      refine R.move ?_
      refine R.gT rfl rfl ?_
      refine R.callE1 ent40 (firstN_ _ hN) rfl nofun ?_
      rintro v125 w16 hx16 rfl
      replace hD := hD.ext hx16
      replace hJ := hJ.ext hx16
      replace hV := hV.ext hx16
      replace hP := hP.ext hx16
      replace hS93 := hS93.ext hx16
      replace hN := hN.ext hx16
      replace hB902 := hB902.ext hx16
      replace hB58 := hB58.ext hx16
      replace hB92 := hB92.ext hx16
      replace hE := hE.ext hx16
      refine R.gT rfl rfl ?_
      refine R.move ?_
      refine R.gT rfl rfl ?_
      refine R.callE1 ent37 (lastNN_ _ hN) rfl nofun ?_
      rintro v127 w17 hx17 rfl
      replace hD := hD.ext hx17
      replace hJ := hJ.ext hx17
      replace hV := hV.ext hx17
      replace hP := hP.ext hx17
      replace hS93 := hS93.ext hx17
      replace hN := hN.ext hx17
      replace hB902 := hB902.ext hx17
      replace hB58 := hB58.ext hx17
      replace hB92 := hB92.ext hx17
      replace hE := hE.ext hx17
      refine R.gT rfl rfl ?_
      refine R.addN (m := 0) (n := 0) rfl rfl (by omega) ?_
      refine R.gT rfl rfl ?_
      refine R.move ?_
      refine R.gT rfl rfl ?_
      refine R.callE1 ent34 (mendedN_ _ hN) rfl nofun ?_
      rintro v130 w18 hx18 rfl
      replace hD := hD.ext hx18
      replace hJ := hJ.ext hx18
      replace hV := hV.ext hx18
      replace hP := hP.ext hx18
      replace hS93 := hS93.ext hx18
      replace hN := hN.ext hx18
      replace hB902 := hB902.ext hx18
      replace hB58 := hB58.ext hx18
      replace hB92 := hB92.ext hx18
      replace hE := hE.ext hx18
      refine R.gT rfl rfl ?_
      refine R.addN (m := (0 + 0)) (n := 0) rfl rfl (by omega) ?_
      refine R.gT rfl rfl ?_
      refine R.neq (b := !decide (((((0 + 0) + 0 : Nat) : Int)) = (((0 : Nat) : Int)))) rfl rfl rfl ?_
      refine R.pickF rfl ?_
      refine R.move ?_
      have hg134 := Bool.eq_false_or_eq_true (!decide (((((0 + 0) + 0 : Nat) : Int)) = (((0 : Nat) : Int))))
      rcases hg134 with hg134 | hg134
      · have hg134q := hg134
        replace hg134 := nT hg134
        exact absurd hg134 (by omega)
      · have hg134q := hg134
        replace hg134 := nF hg134
        refine R.gT rfl (congrArg Value.bool hg134q) ?_
        refine R.move ?_
        refine R.gT rfl (congrArg Value.bool hg134q) ?_
        refine R.callE1 ent35 (roomN_ _ hN) rfl nofun ?_
        rintro v136 w19 hx19 rfl
        replace hD := hD.ext hx19
        replace hJ := hJ.ext hx19
        replace hV := hV.ext hx19
        replace hP := hP.ext hx19
        replace hS93 := hS93.ext hx19
        replace hN := hN.ext hx19
        replace hB902 := hB902.ext hx19
        replace hB58 := hB58.ext hx19
        replace hB92 := hB92.ext hx19
        replace hE := hE.ext hx19
        refine R.gT rfl (congrArg Value.bool hg134q) ?_
        refine R.neq (b := !decide ((-1) = (-1))) rfl rfl rfl ?_
        refine R.pickF (congrArg Value.bool hg134q) ?_
        refine R.nil ?_
        refine E.cond (b := !decide ((-1) = (-1))) rfl (fun hc138 => ?_) (fun hc138 => ?_)
        · replace hc138 := nT hc138
          exact absurd hc138 (by omega)
        · replace hc138 := nF hc138
          refine E.skip ?_
          refine E.forget [(2, .int .i64 (z0)), (7, .pointer (some ⟨b902, 0, none⟩)), (93, .slice (some ⟨b93, 0, none⟩) 2 2), (94, .int .i64 ((2 : Nat) : Int)), (95, .int .i64 ((i : Nat) : Int))] ⟨rfl, rfl, rfl, rfl, rfl, trivial⟩ (fun e => ?_)
          refine E.regionP rfl ?_
          refine R.addN (m := i) (n := 1) rfl rfl (by omega) ?_
          refine R.move ?_
          refine R.nil ?_
          exact ⟨2 - (i + 1), by omega, i + 1, rfl, by omega, hD, hJ, hV, hP, hS93, hB902, hB58, hB92, hE, rfl, rfl, rfl, rfl, rfl, trivial⟩
    · replace hc96 := dF hc96
      refine E.exit ?_
      refine E.seq ?_

      refine E.regionP rfl ?_
      refine R.move ?_
      refine R.nilCheck rfl ?_
      refine R.fld fa69_0 rfl ?_
      refine R.loadB t32 hB902 rfl rfl rfl trivial ?_
      refine R.nilCheck rfl ?_
      refine R.fld fa25_0 rfl ?_
      refine R.loadB t22 hD.blk rfl rfl rfl trivial ?_
      refine R.ix (m := 0) Try.underlying22 t27 (by decide) hD.bls.row rfl rfl (by omega) ?_
      refine R.loadE t27 (by decide) hD.bls.row rfl (blocksC_takeD hD.ok (i := 0) (by first | omega | decide)) (by rw [List.length_map]; exact ((hD.ok' 0 (by first | omega | decide))).1) rfl (fun _ _ => trivial) ?_
      refine R.alloc t27 nofun ?_
      intro b23 w20 hb23 hx20 hB23
      have hn_hD_23 := hD.new hb23
      replace hb23 := Nat.le_trans hE.size hb23
      replace hD := hD.ext hx20
      replace hJ := hJ.ext hx20
      replace hV := hV.ext hx20
      replace hP := hP.ext hx20
      replace hB902 := hB902.ext hx20
      replace hE := hE.ext hx20
      replace hB23 : Blk _ b23 27 (Array.replicate 64 (.int .u8 0)) := hB23
      rw [← zeroV] at hB23
      refine R.storeA t27 hB23 rfl rfl (blkV_size zeroB_ok.1) (blkV_size (hD.ok' 0 (by first | omega | decide)).1) blkV_ones nofun ?_
      intro w21 hU21 hs21 hN21
      replace hD := hD.upN hU21 hn_hD_23
      replace hJ := hJ.upT hU21 hB23 (by decide)
      replace hV := hV.upT hU21 hB23 (by decide)
      replace hP := hP.upT hU21 hB23 (by decide)
      replace hB902 := hB902.upT hU21 hB23 (by decide)
      replace hE := hE.own hU21 hb23
      replace hB23 : Blk _ b23 27 (blkV ((s.d.bl.getD 0 []))) := hN21
      refine R.nil ?_
      refine E.seq ?_
      refine E.forget [(2, .int .i64 (z0)), (7, .pointer (some ⟨b902, 0, none⟩)), (23, .pointer (some ⟨b23, 0, none⟩))] ⟨rfl, rfl, rfl, trivial⟩ (fun e => ?_)
      refine E.regionW (fun c x => x < w21.heap.size ∧ (c = false → ¬ AB b901 b900 vb vd x)) []  mixed rfl (by kernel_rfl) ?_
      intro w22 hx22 hh22
      replace hD := hD.ext hx22
      replace hJ := hJ.ext hx22
      replace hV := hV.ext hx22
      replace hP := hP.ext hx22
      replace hB902 := hB902.ext hx22
      replace hB23 := hB23.ext hx22
      replace hE := hE.ext hx22
      have hEs : Ext w22 w22 := Upd.refl _
      have hS0 := hx22.size
      have hSB : ∀ b, b < w22.heap.size → b < w21.heap.size ∧ (true = false → (fun x => ¬ AB b901 b900 vb vd x) b) := fun b hb => ⟨by rw [hh22] at hb; exact hb, nofun⟩
      have hSA : ∀ b, b < w22.heap.size → (fun x => ¬ AB b901 b900 vb vd x) b → b < w21.heap.size ∧ (false = false → (fun x => ¬ AB b901 b900 vb vd x) b) := fun b hb h => ⟨by rw [hh22] at hb; exact hb, fun _ => h⟩
      have hDs := hD
      have hJs := hJ
      have hVs := hV
      have hPs := hP
      have hB902s := hB902
      have hB23s := hB23
      refine R.move ?_
      refine R.nilCheck rfl ?_
      refine R.fld fa69_1 rfl ?_
      refine R.loadB t66 hB902 rfl rfl rfl (hSA b902 hB902s.lt ((fun e => e.elim (fun e => hJs.blk.ne hB902s (by decide) e.symm) (fun e => hDs.notDB hB902s (by decide) e)))) ?_
      refine R.move ?_
      refine R.move ?_
      refine R.nilCheck rfl ?_
      refine R.fld fa69_3 rfl ?_
      refine R.loadB t3 hB902 rfl rfl rfl (hSA b902 hB902s.lt ((fun e => e.elim (fun e => hJs.blk.ne hB902s (by decide) e.symm) (fun e => hDs.notDB hB902s (by decide) e)))) ?_
      refine R.subN (m := s.first) (n := 1) rfl rfl (by omega) (by omega) ?_
      refine R.minZ (m := z0) (n := ((s.first - 1 : Nat) : Int)) rfl rfl ?_
      refine R.call3 ent36 (appendP _ hD hJ (RU8.of (show SU8s _ (.slice none 0 0) [] from Sl.nil _ _ _)) (fun _ h => absurd h (List.not_mem_nil)) hH.ok hat (by decide) (by omega) (by omega) (append_arg hI.down (by decide) (.inl (by omega)))) rfl rfl rfl ?_
      rintro v161 w23 ⟨hU23, hDn23, vl5, us5, hJn161, rfl⟩
      refine ⟨fun _ => hU23.agree (fun x hx => ⟨Nat.lt_of_lt_of_le hx.1 (Nat.le_trans hS0 hEs.size), hx.2 rfl⟩), ?_⟩
      replace hV := hV.upA hU23 hD hJ (by decide)
      replace hP := hP.upA hU23 hD hJ (by decide)
      replace hB902 := hB902.upA hU23 hD hJ (by decide)
      replace hB23 := hB23.up hU23 (fun e => e.elim (fun e => hJ.blk.ne hB23 (by decide) e.symm) (fun e => hn_hD_23 (DB.flip e)))
      replace hE := hE.trans hU23 (fun x hx h => absurd hx (Nat.not_lt.2 (hge x h)))
      clear hD hJ
      have hD := hDn23
      have hJ := hJn161
      refine R.move ?_
      refine R.extract rfl rfl ?_
      refine R.extract rfl rfl ?_
      refine R.assign ?_
      refine R.assign ?_
      refine R.nil ?_
      refine E.seq ?_
      refine E.forget [(2, .int .i64 (z0)), (7, .pointer (some ⟨b902, 0, none⟩)), (10, .int .i64 ((2 : Nat) : Int)), (23, .pointer (some ⟨b23, 0, none⟩)), (24, .int .i64 ((0 : Nat) : Int))] ⟨rfl, rfl, rfl, rfl, rfl, trivial⟩ (fun e => ?_)
      refine E.regionW (fun c x => x < w23.heap.size ∧ (c = false → ¬ AB b901 b900 vb vd x)) []  mixed rfl (by kernel_rfl) ?_
      intro w24 hx24 hh24
      replace hD := hD.ext hx24
      replace hJ := hJ.ext hx24
      replace hV := hV.ext hx24
      replace hP := hP.ext hx24
      replace hB902 := hB902.ext hx24
      replace hB23 := hB23.ext hx24
      replace hE := hE.ext hx24
      have hEs : Ext w24 w24 := Upd.refl _
      have hS0 := hx24.size
      have hSB : ∀ b, b < w24.heap.size → b < w23.heap.size ∧ (true = false → (fun x => ¬ AB b901 b900 vb vd x) b) := fun b hb => ⟨by rw [hh24] at hb; exact hb, nofun⟩
      have hSA : ∀ b, b < w24.heap.size → (fun x => ¬ AB b901 b900 vb vd x) b → b < w23.heap.size ∧ (false = false → (fun x => ¬ AB b901 b900 vb vd x) b) := fun b hb h => ⟨by rw [hh24] at hb; exact hb, fun _ => h⟩
      have hDs := hD
      have hJs := hJ
      have hVs := hV
      have hPs := hP
      have hB902s := hB902
      have hB23s := hB23
      refine R.move ?_
      refine R.nilCheck rfl ?_
      refine R.fld fa69_1 rfl ?_
      refine R.loadB t66 hB902 rfl rfl rfl (hSA b902 hB902s.lt ((fun e => e.elim (fun e => hJs.blk.ne hB902s (by decide) e.symm) (fun e => hDs.notDB hB902s (by decide) e)))) ?_
      refine R.move ?_
      refine R.move ?_
      refine R.nilCheck rfl ?_
      refine R.fld fa69_1 rfl ?_
      refine R.loadB t66 hB902 rfl rfl rfl (hSA b902 hB902s.lt ((fun e => e.elim (fun e => hJs.blk.ne hB902s (by decide) e.symm) (fun e => hDs.notDB hB902s (by decide) e)))) ?_
      refine R.callE1 ent37 (lastN_ _ hJ hH.ok.len) rfl (fun _ _ hb => Nat.lt_of_lt_of_le hb.1 (Nat.le_trans hS0 hEs.size)) ?_
      rintro v174 w25 hx25 rfl
      replace hD := hD.ext hx25
      replace hJ := hJ.ext hx25
      replace hV := hV.ext hx25
      replace hP := hP.ext hx25
      replace hB902 := hB902.ext hx25
      replace hB23 := hB23.ext hx25
      replace hE := hE.ext hx25
      replace hEs := hEs.ext hx25
      refine R.addN (m := ((lastN j.live))) (n := 2) rfl rfl (by omega) ?_
      refine R.maxZ (m := z0) (n := ((lastN j.live + 2 : Nat) : Int)) rfl rfl ?_
      refine R.call3 ent36 (appendP _ hD hJ (RU8.of (show SU8s _ (.slice none 0 0) [] from Sl.nil _ _ _)) (fun _ h => absurd h (List.not_mem_nil)) hH.ok hat (by decide) (by omega) (by omega) (append_arg hI.down (by decide) (.inr (by omega)))) rfl rfl rfl ?_
      rintro v177 w26 ⟨hU26, hDn26, vl6, us6, hJn177, rfl⟩
      refine ⟨fun _ => hU26.agree (fun x hx => ⟨Nat.lt_of_lt_of_le hx.1 (Nat.le_trans hS0 hEs.size), hx.2 rfl⟩), ?_⟩
      replace hV := hV.upA hU26 hD hJ (by decide)
      replace hP := hP.upA hU26 hD hJ (by decide)
      replace hB902 := hB902.upA hU26 hD hJ (by decide)
      replace hB23 := hB23.up hU26 (fun e => e.elim (fun e => hJ.blk.ne hB23 (by decide) e.symm) (fun e => hn_hD_23 (DB.flip e)))
      replace hE := hE.trans hU26 (fun x hx h => absurd hx (Nat.not_lt.2 (hge x h)))
      clear hD hJ
      have hD := hDn26
      have hJ := hJn177
      refine R.move ?_
      refine R.extract rfl rfl ?_
      refine R.extract rfl rfl ?_
      refine R.assign ?_
      refine R.assign ?_
      refine R.nil ?_
      refine E.seq ?_
      refine E.forget [(2, .int .i64 (z0)), (7, .pointer (some ⟨b902, 0, none⟩)), (10, .int .i64 ((2 : Nat) : Int)), (12, .int .i64 ((2 : Nat) : Int)), (23, .pointer (some ⟨b23, 0, none⟩)), (24, .int .i64 ((0 : Nat) : Int)), (25, .int .i64 ((0 : Nat) : Int))] ⟨rfl, rfl, rfl, rfl, rfl, rfl, rfl, trivial⟩ (fun e => ?_)
      refine E.regionW (fun c x => x < w26.heap.size ∧ (c = false → ¬ AB b901 b900 vb vd x)) []  mixed rfl (by kernel_rfl) ?_
      intro w27 hx27 hh27
      replace hD := hD.ext hx27
      replace hJ := hJ.ext hx27
      replace hV := hV.ext hx27
      replace hP := hP.ext hx27
      replace hB902 := hB902.ext hx27
      replace hB23 := hB23.ext hx27
      replace hE := hE.ext hx27
      have hEs : Ext w27 w27 := Upd.refl _
      have hS0 := hx27.size
      have hSB : ∀ b, b < w27.heap.size → b < w26.heap.size ∧ (true = false → (fun x => ¬ AB b901 b900 vb vd x) b) := fun b hb => ⟨by rw [hh27] at hb; exact hb, nofun⟩
      have hSA : ∀ b, b < w27.heap.size → (fun x => ¬ AB b901 b900 vb vd x) b → b < w26.heap.size ∧ (false = false → (fun x => ¬ AB b901 b900 vb vd x) b) := fun b hb h => ⟨by rw [hh27] at hb; exact hb, fun _ => h⟩
      have hDs := hD
      have hJs := hJ
      have hVs := hV
      have hPs := hP
      have hB902s := hB902
      have hB23s := hB23
      refine R.move ?_
      refine R.nilCheck rfl ?_
      refine R.fld fa69_1 rfl ?_
      refine R.loadB t66 hB902 rfl rfl rfl (hSA b902 hB902s.lt ((fun e => e.elim (fun e => hJs.blk.ne hB902s (by decide) e.symm) (fun e => hDs.notDB hB902s (by decide) e)))) ?_
      refine R.makeK (n := 4033) (c := 4033) Try.underlying55 t5 (by decide) z5 rfl rfl (Nat.le_refl _) (by omega) (by omega) (fun _ _ _ hb => Nat.lt_of_lt_of_le hb.1 (Nat.le_trans hS0 hEs.size)) ?_
      intro b185 w28 hb185 hx28 hS185
      have hn_hJ_185 := hJ.new hb185
      have hn_hV_185 := hV.new hb185
      replace hb185 := Nat.le_trans hE.size hb185
      replace hD := hD.ext hx28
      replace hJ := hJ.ext hx28
      replace hV := hV.ext hx28
      replace hP := hP.ext hx28
      replace hB902 := hB902.ext hx28
      replace hB23 := hB23.ext hx28
      replace hE := hE.ext hx28
      replace hEs := hEs.ext hx28
      replace hS185 : SU8s _ (.slice (some ⟨b185, 0, none⟩) 4033 4033) (List.replicate 4033 0) := SU8s.made hS185
      refine R.move ?_
      refine R.nilCheck rfl ?_
      refine R.fld fa69_3 rfl ?_
      refine R.loadB t3 hB902 rfl rfl rfl (hSA b902 hB902s.lt ((fun e => e.elim (fun e => hJs.blk.ne hB902s (by decide) e.symm) (fun e => hDs.notDB hB902s (by decide) e)))) ?_
      refine R.call3 ent36 (appendP _ hD hJ (RU8.of hS185) (fun x hx => by rw [List.eq_of_mem_replicate hx]; decide) hH.ok hat (by rw [List.length_replicate]; decide) (by omega) (by omega) (append_long hI.down (by rw [List.length_replicate]; decide))) rfl rfl rfl ?_
      rintro v190 w29 ⟨hU29, hDn29, vl7, us7, hJn190, rfl⟩
      refine ⟨fun _ => hU29.agree (fun x hx => ⟨Nat.lt_of_lt_of_le hx.1 (Nat.le_trans hS0 hEs.size), hx.2 rfl⟩), ?_⟩
      replace hV := hV.upA hU29 hD hJ (by decide)
      replace hP := hP.upA hU29 hD hJ (by decide)
      replace hS185 := hS185.upA hU29 hD hJ (by decide)
      replace hB902 := hB902.upA hU29 hD hJ (by decide)
      replace hB23 := hB23.up hU29 (fun e => e.elim (fun e => hJ.blk.ne hB23 (by decide) e.symm) (fun e => hn_hD_23 (DB.flip e)))
      replace hE := hE.trans hU29 (fun x hx h => absurd hx (Nat.not_lt.2 (hge x h)))
      clear hD hJ
      have hD := hDn29
      have hJ := hJn190
      refine R.move ?_
      refine R.extract rfl rfl ?_
      refine R.extract rfl rfl ?_
      refine R.assign ?_
      refine R.assign ?_
      refine R.nil ?_
      refine E.seq ?_
      refine E.forget [(2, .int .i64 (z0)), (7, .pointer (some ⟨b902, 0, none⟩)), (10, .int .i64 ((2 : Nat) : Int)), (12, .int .i64 ((2 : Nat) : Int)), (14, .int .i64 ((3 : Nat) : Int)), (23, .pointer (some ⟨b23, 0, none⟩)), (24, .int .i64 ((0 : Nat) : Int)), (25, .int .i64 ((0 : Nat) : Int)), (26, .int .i64 ((0 : Nat) : Int))] ⟨rfl, rfl, rfl, rfl, rfl, rfl, rfl, rfl, rfl, trivial⟩ (fun e => ?_)
      refine E.regionP rfl ?_
      refine R.move ?_
      refine R.nilCheck rfl ?_
      refine R.fld fa69_0 rfl ?_
      refine R.loadB t32 hB902 rfl rfl rfl trivial ?_
      refine R.move ?_
      refine R.minZ (m := z0) (n := (-1)) rfl rfl ?_
      refine R.callE2 ent15 (read_ _ hD) rfl rfl nofun ?_
      rintro v200 w30 hx30 hT200
      replace hD := hD.ext hx30
      replace hJ := hJ.ext hx30
      replace hV := hV.ext hx30
      replace hP := hP.ext hx30
      replace hS185 := hS185.ext hx30
      replace hB902 := hB902.ext hx30
      replace hB23 := hB23.ext hx30
      replace hE := hE.ext hx30
      rw [Dk.read_out (.inl (by omega))] at hT200
      replace hT200 : _ = Value.tuple #[.agg (blkV zeroB), .bool false] := hT200
      subst hT200
      refine R.move ?_
      refine R.extract rfl rfl ?_
      refine R.extract rfl rfl ?_
      refine R.alloc t27 nofun ?_
      intro b27 w31 hb27 hx31 hB27
      have ne23_27 : b23 ≠ b27 := by have := hB23.lt; omega
      have hn_hD_27 := hD.new hb27
      replace hb27 := Nat.le_trans hE.size hb27
      replace hD := hD.ext hx31
      replace hJ := hJ.ext hx31
      replace hV := hV.ext hx31
      replace hP := hP.ext hx31
      replace hS185 := hS185.ext hx31
      replace hB902 := hB902.ext hx31
      replace hB23 := hB23.ext hx31
      replace hE := hE.ext hx31
      replace hB27 : Blk _ b27 27 (Array.replicate 64 (.int .u8 0)) := hB27
      rw [← zeroV] at hB27
      refine R.storeA t27 hB27 rfl rfl (blkV_size zeroB_ok.1) (blkV_size zeroB_ok.1) blkV_ones nofun ?_
      intro w32 hU32 hs32 hN32
      replace hD := hD.upN hU32 hn_hD_27
      replace hJ := hJ.upT hU32 hB27 (by decide)
      replace hV := hV.upT hU32 hB27 (by decide)
      replace hP := hP.upT hU32 hB27 (by decide)
      replace hS185 := hS185.upT hU32 hB27 (by decide)
      replace hB902 := hB902.upT hU32 hB27 (by decide)
      replace hB23 := hB23.up hU32 (fun h => ne23_27 h)
      replace hE := hE.own hU32 hb27
      replace hB27 : Blk _ b27 27 (blkV zeroB) := hN32
      refine R.assign ?_
      refine R.nil ?_
      refine E.seq ?_
      refine E.forget [(2, .int .i64 (z0)), (7, .pointer (some ⟨b902, 0, none⟩)), (10, .int .i64 ((2 : Nat) : Int)), (12, .int .i64 ((2 : Nat) : Int)), (14, .int .i64 ((3 : Nat) : Int)), (23, .pointer (some ⟨b23, 0, none⟩)), (24, .int .i64 ((0 : Nat) : Int)), (25, .int .i64 ((0 : Nat) : Int)), (26, .int .i64 ((0 : Nat) : Int)), (28, .bool (false))] ⟨rfl, rfl, rfl, rfl, rfl, rfl, rfl, rfl, rfl, rfl, trivial⟩ (fun e => ?_)
      refine E.regionW (fun c x => x < w32.heap.size ∧ (c = false → ¬ DB b900 vb vd x)) [214]  mixed rfl (by kernel_rfl) ?_
      intro w33 hx33 hh33
      replace hD := hD.ext hx33
      replace hJ := hJ.ext hx33
      replace hV := hV.ext hx33
      replace hP := hP.ext hx33
      replace hS185 := hS185.ext hx33
      replace hB902 := hB902.ext hx33
      replace hB23 := hB23.ext hx33
      replace hB27 := hB27.ext hx33
      replace hE := hE.ext hx33
      have hEs : Ext w33 w33 := Upd.refl _
      have hS0 := hx33.size
      have hSB : ∀ b, b < w33.heap.size → b < w32.heap.size ∧ (true = false → (fun x => ¬ DB b900 vb vd x) b) := fun b hb => ⟨by rw [hh33] at hb; exact hb, nofun⟩
      have hSA : ∀ b, b < w33.heap.size → (fun x => ¬ DB b900 vb vd x) b → b < w32.heap.size ∧ (false = false → (fun x => ¬ DB b900 vb vd x) b) := fun b hb h => ⟨by rw [hh33] at hb; exact hb, fun _ => h⟩
      have hDs := hD
      have hJs := hJ
      have hVs := hV
      have hPs := hP
      have hS185s := hS185
      have hB902s := hB902
      have hB23s := hB23
      have hB27s := hB27
      refine R.move ?_
      refine R.nilCheck rfl ?_
      refine R.fld fa69_0 rfl ?_
      refine R.loadB t32 hB902 rfl rfl rfl (hSA b902 hB902s.lt ((fun e => hDs.notDB hB902s (by decide) e))) ?_
      refine R.move ?_
      refine R.move ?_
      refine R.nilCheck rfl ?_
      refine R.fld fa69_0 rfl ?_
      refine R.loadB t32 hB902 rfl rfl rfl (hSA b902 hB902s.lt ((fun e => hDs.notDB hB902s (by decide) e))) ?_
      refine R.nilCheck rfl ?_
      refine R.fld fa25_1 rfl ?_
      refine R.loadB t23 hD.blk rfl rfl rfl (hSB b900 hDs.blk.lt) ?_
      refine R.len Try.underlying23 hD.bds.row rfl ?_
      refine R.maxZ (m := z0) (n := ((s.d.bad.length : Nat) : Int)) rfl rfl ?_
      refine R.build bldOne rfl ?_
      refine R.call3 ent17 (writeOut _ hD oneB_ok (by omega) (.inr (by omega))) rfl rfl rfl ?_
      rintro v218 w34 ⟨hU34, hDn34, rfl⟩
      refine ⟨fun _ => hU34.agree (fun x hx => ⟨Nat.lt_of_lt_of_le hx.1 (Nat.le_trans hS0 hEs.size), hx.2 rfl⟩), ?_⟩
      replace hJ := hJ.upD hU34 hD
      replace hV := hV.upD hU34 hD (by decide)
      replace hP := hP.upD hU34 hD (by decide)
      replace hS185 := hS185.upD hU34 hD (by decide)
      replace hB902 := hB902.upD hU34 hD (by decide)
      replace hB23 := hB23.up hU34 (fun e => hn_hD_23 (DB.flip e))
      replace hB27 := hB27.up hU34 (fun e => hn_hD_27 (DB.flip e))
      replace hE := hE.trans hU34 (fun x hx h => absurd hx (Nat.not_lt.2 (hge x (.inr h))))
      clear hD
      have hD := hDn34
      refine R.assign ?_
      refine R.nil ?_
      refine E.seq ?_
      refine E.forget [(7, .pointer (some ⟨b902, 0, none⟩)), (10, .int .i64 ((2 : Nat) : Int)), (12, .int .i64 ((2 : Nat) : Int)), (14, .int .i64 ((3 : Nat) : Int)), (23, .pointer (some ⟨b23, 0, none⟩)), (24, .int .i64 ((0 : Nat) : Int)), (25, .int .i64 ((0 : Nat) : Int)), (26, .int .i64 ((0 : Nat) : Int)), (28, .bool (false)), (29, .bool (false))] ⟨rfl, rfl, rfl, rfl, rfl, rfl, rfl, rfl, rfl, rfl, trivial⟩ (fun e => ?_)
      refine E.regionW (fun c x => x < w34.heap.size ∧ (c = false → True)) []  mixed rfl (by kernel_rfl) ?_
      intro w35 hx35 hh35
      replace hD := hD.ext hx35
      replace hJ := hJ.ext hx35
      replace hV := hV.ext hx35
      replace hP := hP.ext hx35
      replace hS185 := hS185.ext hx35
      replace hB902 := hB902.ext hx35
      replace hB23 := hB23.ext hx35
      replace hB27 := hB27.ext hx35
      replace hE := hE.ext hx35
      have hEs : Ext w35 w35 := Upd.refl _
      have hS0 := hx35.size
      have hSB : ∀ b, b < w35.heap.size → b < w34.heap.size ∧ (true = false → (fun x => True) b) := fun b hb => ⟨by rw [hh35] at hb; exact hb, nofun⟩
      have hSA : ∀ b, b < w35.heap.size → (fun x => True) b → b < w34.heap.size ∧ (false = false → (fun x => True) b) := fun b hb h => ⟨by rw [hh35] at hb; exact hb, fun _ => h⟩
      have hSO : ∀ b, b < w.heap.size → b < w34.heap.size ∧ (false = false → (fun x => True) b) := fun b hb => hSA b (Nat.lt_of_lt_of_le hb hE.size) (trivial)
      have hDs := hD
      have hJs := hJ
      have hVs := hV
      have hPs := hP
      have hS185s := hS185
      have hB902s := hB902
      have hB23s := hB23
      have hB27s := hB27
      refine R.move ?_
      refine R.move ?_
      refine R.addN (m := 0) (n := 0) rfl rfl (by omega) ?_
      refine R.move ?_
      refine R.addN (m := (0 + 0)) (n := 0) rfl rfl (by omega) ?_
      refine R.eql (b := decide (((((0 + 0) + 0 : Nat) : Int)) = (((0 : Nat) : Int)))) rfl rfl rfl ?_
      refine R.move ?_
      have hg225 := Bool.eq_false_or_eq_true (decide (((((0 + 0) + 0 : Nat) : Int)) = (((0 : Nat) : Int))))
      rcases hg225 with hg225 | hg225
      · have hg225q := hg225
        replace hg225 := dT hg225
        refine R.gT rfl (congrArg Value.bool hg225q) ?_
        refine R.move ?_
        refine R.gT rfl (congrArg Value.bool hg225q) ?_
        refine R.eql (b := true) rfl rfl (by decide) ?_
        refine R.pickT (congrArg Value.bool hg225q) ?_
        refine R.move ?_
        refine R.gT rfl rfl ?_
        refine R.move ?_
        refine R.gT rfl rfl ?_
        refine R.eql (b := true) rfl rfl (by decide) ?_
        refine R.pickT rfl ?_
        refine R.move ?_
        refine R.gT rfl rfl ?_
        refine R.move ?_
        refine R.gT rfl rfl ?_
        refine R.eql (b := true) rfl rfl (by decide) ?_
        refine R.pickT rfl ?_
        refine R.move ?_
        refine R.gT rfl rfl ?_
        refine R.move ?_
        refine R.gT rfl rfl ?_
        refine R.not rfl ?_
        refine R.pickT rfl ?_
        refine R.move ?_
        refine R.gT rfl rfl ?_
        refine R.move ?_
        refine R.gT rfl rfl ?_
        refine R.not rfl ?_
        refine R.pickT rfl ?_
        refine R.move ?_
        refine R.gT rfl rfl ?_
        refine R.loadA t27 hB23 rfl (blkV_size (hD.ok' 0 (by first | omega | decide)).1) rfl (hSA b23 hB23s.lt (trivial)) ?_
        refine R.gT rfl rfl ?_
        refine R.move ?_
        refine R.gT rfl rfl ?_
        refine R.nilCheck rfl ?_
        refine R.gT rfl rfl ?_
        refine R.fld fa69_0 rfl ?_
        refine R.gT rfl rfl ?_
        refine R.loadB t32 hB902 rfl rfl rfl (hSA b902 hB902s.lt (trivial)) ?_
        refine R.gT rfl rfl ?_
        refine R.nilCheck rfl ?_
        refine R.gT rfl rfl ?_
        refine R.fld fa25_0 rfl ?_
        refine R.gT rfl rfl ?_
        refine R.loadB t22 hD.blk rfl rfl rfl (hSA b900 hDs.blk.lt (trivial)) ?_
        refine R.gT rfl rfl ?_
        refine R.ix (m := 0) Try.underlying22 t27 (by decide) hD.bls.row rfl rfl (by omega) ?_
        refine R.gT rfl rfl ?_
        refine R.loadE t27 (by decide) hD.bls.row rfl (blocksC_takeD hD.ok (i := 0) (by first | omega | decide)) (by rw [List.length_map]; exact ((hD.ok' 0 (by first | omega | decide))).1) rfl (fun b e => hSA b (hDs.bls.lt b e) (trivial)) ?_
        refine R.gT rfl rfl ?_
        refine R.eqlA (b' := decide ((s.d.bl.getD 0 []) = (s.d.bl.getD 0 []))) rfl rfl Try.eqGuardType27 (eq27 (hD.ok' 0 (by first | omega | decide)) (hD.ok' 0 (by first | omega | decide))) ?_
        refine R.pickT rfl ?_
        refine R.move ?_
        have hg258 := Bool.eq_false_or_eq_true (decide ((s.d.bl.getD 0 []) = (s.d.bl.getD 0 [])))
        rcases hg258 with hg258 | hg258
        · have hg258q := hg258
          replace hg258 := dT hg258
          refine R.gT rfl (congrArg Value.bool hg258q) ?_
          refine R.move ?_
          refine R.gT rfl (congrArg Value.bool hg258q) ?_
          refine R.callE1 ent38 (holds_ _ hB902 hJ hV hH) rfl (fun _ _ hb => Nat.lt_of_lt_of_le hb.1 (Nat.le_trans hS0 hEs.size)) ?_
          rintro v260 w36 hx36 rfl
          replace hD := hD.ext hx36
          replace hJ := hJ.ext hx36
          replace hV := hV.ext hx36
          replace hP := hP.ext hx36
          replace hS185 := hS185.ext hx36
          replace hB902 := hB902.ext hx36
          replace hB23 := hB23.ext hx36
          replace hB27 := hB27.ext hx36
          replace hE := hE.ext hx36
          replace hEs := hEs.ext hx36
          refine R.pickT (congrArg Value.bool hg258q) ?_
          refine R.move ?_
          refine R.gT rfl rfl ?_
          refine R.callE0 ent13 (awake_ _)  (fun _ _ hb => Nat.lt_of_lt_of_le hb.1 (Nat.le_trans hS0 hEs.size)) ?_
          rintro v263 w37 hx37 rfl
          replace hD := hD.ext hx37
          replace hJ := hJ.ext hx37
          replace hV := hV.ext hx37
          replace hP := hP.ext hx37
          replace hS185 := hS185.ext hx37
          replace hB902 := hB902.ext hx37
          replace hB23 := hB23.ext hx37
          replace hB27 := hB27.ext hx37
          replace hE := hE.ext hx37
          replace hEs := hEs.ext hx37
          refine R.pickT rfl ?_
          refine R.assign ?_
          refine R.nil ?_
          refine E.ret ?_
          refine ret1 (.bool (true)) rfl rfl ⟨_, rfl, ?_⟩
          exact ⟨hE, rfl⟩
        · have hg258q := hg258
          replace hg258 := dF hg258
          exact absurd hg258 (by simp)
      · have hg225q := hg225
        replace hg225 := dF hg225
        exact absurd hg225 (by omega)
end Go.Proofs.Ytlplogplicgfiaa
