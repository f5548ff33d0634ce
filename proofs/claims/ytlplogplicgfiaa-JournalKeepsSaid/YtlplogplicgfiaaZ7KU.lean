import Derived.Test.YtlplogplicgfiaaZ7P9
namespace Go.Proofs.Ytlplogplicgfiaa
open Go Go.RowKit
theorem R.andB {P : Program} {ops : Array Oper} {S : Bool → Nat → Prop} {dr : Bool} {B : List Nat} {F : Env → World → Prop} {rest : List Oper} {e : Env} {w : World} {d : Tmp} {ty : TypeId} {pos : String} {aft : Array Edge} {t t' : TypeId} {x y : Operand} {k : IntKind} {m n : Int} (hx : ev e x = .int k m) (hy : ev e y = .int k n)
    (h : wpR P ops S dr (kind B) F rest (upd e d (.int k (k.wrap (BitVec.ofInt k.bits m &&& BitVec.ofInt k.bits n).toNat))) w) : wpR P ops S dr (kind B) F (⟨some d, .binOp .and t x y t', ty, pos, aft, none⟩ :: rest) e w :=
  R.quiet _ rfl (fun w' _ => by simp [execOp, hx, hy, R.guard_int, binOp, Op.intBits]) h
theorem R.remB {P : Program} {ops : Array Oper} {S : Bool → Nat → Prop} {dr : Bool} {B : List Nat} {F : Env → World → Prop} {rest : List Oper} {e : Env} {w : World} {d : Tmp} {ty : TypeId} {pos : String} {aft : Array Edge} {t t' : TypeId} {x y : Operand} {k : IntKind} {m n : Nat} (hx : ev e x = .int k ((m : Nat) : Int)) (hy : ev e y = .int k ((n : Nat) : Int)) (h0 : 0 < n)
    (h : wpR P ops S dr (kind B) F rest (upd e d (.int k ((m % n : Nat) : Int))) w) : wpR P ops S dr (kind B) F (⟨some d, .binOp .rem t x y t', ty, pos, aft, none⟩ :: rest) e w :=
  R.rem (m := (m : Int)) (n := (n : Int)) hx hy (by omega) (by omega) (by rw [show ((m : Int) % (n : Int)) = ((m % n : Nat) : Int) from rfl]; exact h)
theorem DM.setTr {w w' : World} {p : Nat} {vb vd : Value} {d : Dk} {b : Bool} (h : DM w p vb vd d) (u : Upd (one p) w w') (hN : Blk w' p 25 #[vb, vd, .int .i64 d.pw, .bool b]) : DM w' p vb vd { d with tr := b } :=
  ⟨hN, h.bls.upT u h.blk (by decide), h.bds.upT u h.blk (by decide), h.ok⟩
set_option maxHeartbeats 1600000 in
theorem journalKeeps (w : World) {pl : Nat} {v : Value} {l : List Stp} (hr : Row w 5 v l.length (stpsC l)) (hl : ∀ x ∈ l, okS x) (hpl : pl < 256) (hll : l.length ≤ 9223372036854775807) :
    Calls Try.prog 7 #[.int .u8 (pl : Nat), v] w (Ret fun r w' => Ext w w' ∧ r = .bool true) := by
  refine calls_E (args := [.int .u8 ((pl : Nat) : Int), v]) 123 Try.func7 rfl rfl (by simp) ?_
  have hE : Ext w w := Upd.refl w
  refine E.seq ?_
  refine E.regionP rfl ?_
  refine R.assign ?_
  refine R.nil ?_
  refine E.seq ?_
  refine E.regionP rfl ?_
  refine R.move ?_
  refine R.toI (n := pl) Try.underlying5 Try.underlying3 rfl (by omega) ?_
  refine R.remN (m := pl) (n := 8) rfl rfl (by omega) ?_
  refine R.addN (m := 4) (n := (pl % 8)) rfl rfl (by omega) ?_
  refine R.callE1 ent29 (begin_ _ (by omega) (by omega)) rfl nofun ?_
  rintro v16 w1 hx1 ⟨b902, rfl, hG0⟩
  have hsz0 := hE.size
  replace hE := hE.ext hx1
  have hX : ∃ s jo, ShX w1 w.heap.size b902 s jo ∧ KS (4 + pl % 8) 0 s jo := ⟨_, some _, by obtain ⟨pd, vb, vd, pj, vl, us, h1, h2, h3, h4, h5⟩ := hG0; exact ShG.x ⟨pd, vb, vd, pj, vl, us, h1, h2, Nat.le_trans hsz0 h3, Nat.le_trans hsz0 h4, fun x hx => Nat.le_trans hsz0 (h5 x hx)⟩, KS.new (by omega) (by omega)⟩
  obtain ⟨s, jo, hX, hK⟩ := hX
  refine R.move ?_
  refine R.extract rfl rfl ?_
  refine R.extract rfl rfl ?_
  refine R.assign ?_
  refine R.assign ?_
  refine R.nil ?_
  refine E.seq ?_
  refine E.seq ?_
  refine E.regionP rfl ?_
  refine R.move ?_
  refine R.not rfl ?_
  refine R.nil ?_
  refine E.condF rfl ?_
  refine E.skip ?_
  refine E.seq ?_
  refine E.seq ?_
  refine E.forget [(1, v), (5, .pointer (some ⟨b902, 0, none⟩))] ⟨rfl, rfl, trivial⟩ (fun e => ?_)
  refine E.regionP rfl ?_
  refine R.move ?_
  refine R.move ?_
  refine R.len Try.underlying59 hr rfl ?_
  refine R.minN (m := l.length) (n := 60) rfl rfl ?_
  have hsl9 := (hr.ext hE)
  obtain ⟨ar, cr, hvr, hcr, _, hcase⟩ := hsl9
  refine R.slc (l := 0) (r := min l.length 60) Try.underlying59 t65 rfl hvr rfl ⟨_, rfl⟩ (by omega) (by omega) ?_
  have hr2 : Row w 5 (Ytlplogplicgfiaa.cut 5 v 0 (min l.length 60)) (l.take (min l.length 60)).length (stpsC (l.take (min l.length 60))) := by
    have h1 := hr.cut (l := 0) (r := min l.length 60) (by omega) (by omega)
    rw [Nat.zero_mul, List.drop_zero, Nat.sub_zero, stps_take] at h1
    rw [List.length_take, show min (min l.length 60) l.length = min l.length 60 by omega]; exact h1
  refine R.len Try.underlying59 hr2 rfl ?_
  refine R.move ?_
  refine R.nil ?_
  refine E.block ?_
  refine E.loop (fun n e wr => ∃ (i : Nat) (s : Sp) (jo : Option Jn), n = (l.take (min l.length 60)).length - i ∧ i ≤ (l.take (min l.length 60)).length ∧ KS (4 + pl % 8) i s jo ∧ ShX wr w.heap.size b902 s jo ∧ Ext w wr ∧ Has e [(5, .pointer (some ⟨b902, 0, none⟩)), (25, (Ytlplogplicgfiaa.cut 5 v 0 (min l.length 60))), (26, .int .i64 (((l.take (min l.length 60)).length : Nat) : Int)), (27, .int .i64 ((i : Nat) : Int))]) ((l.take (min l.length 60)).length) ?_ ?_
  · exact ⟨0, s, jo, rfl, by omega, hK, hX, hE, rfl, rfl, rfl, rfl, trivial⟩
  · rintro n e wr ⟨i, s, jo, rfl, hi, hK, hX, hE, hH⟩
    obtain ⟨e, rfl⟩ := hH.ex
    clear hH
    refine E.seq ?_
    refine E.regionP rfl ?_
    refine R.lss (b := decide ((((i : Nat) : Int)) < ((((l.take (min l.length 60)).length : Nat) : Int)))) rfl rfl rfl ?_
    refine R.nil ?_
    refine E.seq ?_
    refine E.cond (b := decide ((((i : Nat) : Int)) < ((((l.take (min l.length 60)).length : Nat) : Int)))) rfl (fun hc28 => ?_) (fun hc28 => ?_)
    · replace hc28 := dT hc28
      have hx := hl ((l.take (min l.length 60)).getD i Stp0) (by rw [List.getD_eq_getElem?_getD, List.getElem?_eq_getElem (by omega)]; exact List.mem_of_mem_take (List.getElem_mem _))
      obtain ⟨hx1, hx2, hx3, hx4, hx5⟩ := hx
      have hi60 : i < 60 := by have := List.length_take_le (min l.length 60) l; omega
      refine E.skip ?_
      refine E.seq ?_
      refine E.block ?_
      refine E.seq ?_
      rcases jo with _ | j
      · obtain ⟨b900, vb, vd, jp, hS, hN1, hN2, rfl⟩ := hX
        obtain ⟨⟨vL, uL, vp, hB902, hV, hP⟩, hD⟩ := hS
        have hdn := hK.dn
        have hbn := Dk.n_pos (d := s.d) (by omega)
        refine E.regionP rfl ?_
        refine R.ix (m := i) Try.underlying59 t65 (by decide) hr2 rfl rfl (by omega) ?_
        refine R.loadE t65 (by decide) (hr2.ext hE) rfl (stps_at (by omega)) rfl rfl (fun _ _ => trivial) ?_
        refine R.alloc t65 nofun ?_
        intro b8 w2 hb8 hx2 hB8
        replace hb8 := Nat.le_trans hE.size hb8
        replace hD := hD.ext hx2
        replace hV := hV.ext hx2
        replace hP := hP.ext hx2
        replace hB902 := hB902.ext hx2
        replace hE := hE.ext hx2
        replace hB8 : Blk _ b8 65 #[.int .u8 0, .int .u8 0, .int .u8 0, .int .u8 0, .int .u16 0] := hB8
        refine R.storeA t65 hB8 rfl rfl rfl rfl (ones5 rfl rfl rfl rfl rfl) nofun ?_
        intro w3 hU3 hs3 hN3
        replace hD := hD.upT hU3 hB8 (by decide)
        replace hV := hV.upT hU3 hB8 (by decide)
        replace hP := hP.upT hU3 hB8 (by decide)
        replace hB902 := hB902.upT hU3 hB8 (by decide)
        replace hE := hE.own hU3 hb8
        replace hB8 : Blk _ b8 65 #[.int .u8 ((((l.take (min l.length 60)).getD i Stp0).kd : Nat) : Int), .int .u8 ((((l.take (min l.length 60)).getD i Stp0).pw : Nat) : Int), .int .u8 ((((l.take (min l.length 60)).getD i Stp0).bl : Nat) : Int), .int .u8 ((((l.take (min l.length 60)).getD i Stp0).dr : Nat) : Int), .int .u16 ((((l.take (min l.length 60)).getD i Stp0).sz : Nat) : Int)] := hN3
        clear hN3
        refine R.nil ?_
        refine E.seq ?_
        refine E.regionW (fun c x => x < w3.heap.size ∧ (c = false → x ≠ b900)) []  mixed rfl (by kernel_rfl) ?_
        intro w4 hx4 hh4
        replace hD := hD.ext hx4
        replace hV := hV.ext hx4
        replace hP := hP.ext hx4
        replace hB902 := hB902.ext hx4
        replace hB8 := hB8.ext hx4
        replace hE := hE.ext hx4
        have hEs : Ext w4 w4 := Upd.refl _
        have hS0 := hx4.size
        have hSB : ∀ b, b < w4.heap.size → b < w3.heap.size ∧ (true = false → (fun x => x ≠ b900) b) := fun b hb => ⟨by rw [hh4] at hb; exact hb, nofun⟩
        have hSA : ∀ b, b < w4.heap.size → (fun x => x ≠ b900) b → b < w3.heap.size ∧ (false = false → (fun x => x ≠ b900) b) := fun b hb h => ⟨by rw [hh4] at hb; exact hb, fun _ => h⟩
        have hDs := hD
        have hVs := hV
        have hPs := hP
        have hB902s := hB902
        have hB8s := hB8
        refine R.move ?_
        refine R.nilCheck rfl ?_
        refine R.fld fa69_0 rfl ?_
        refine R.loadB t32 hB902 rfl rfl rfl (hSA b902 hB902s.lt (hB902s.ne hDs.blk (by decide))) ?_
        refine R.fld fa65_1 rfl ?_
        refine R.loadB t5 hB8 rfl rfl rfl (hSA b8 hB8s.lt (hB8s.ne hDs.blk (by decide))) ?_
        refine R.andB rfl rfl ?_
        refine R.neq (b := !decide ((IntKind.u8.wrap ((BitVec.ofInt IntKind.u8.bits ((((l.take (min l.length 60)).getD i Stp0).pw : Nat) : Int) &&& BitVec.ofInt IntKind.u8.bits (((16 : Nat) : Int)))).toNat) = (((0 : Nat) : Int)))) rfl rfl rfl ?_
        refine R.nilCheck rfl ?_
        refine R.fld fa25_3 rfl ?_
        refine R.store t4 hD.blk rfl rfl rfl (by simp) (fun _ h => h.2 rfl rfl) ?_
        intro w5 hU5 hs5 hN5
        replace hV := hV.upT hU5 hD.blk (by decide)
        replace hP := hP.upT hU5 hD.blk (by decide)
        replace hB902 := hB902.upT hU5 hD.blk (by decide)
        replace hB8 := hB8.upT hU5 hD.blk (by decide)
        replace hE := hE.trans hU5 (fun x hx h => absurd hx (Nat.not_lt.2 (hN2 x (.inl h))))
        obtain ⟨s1, hs1⟩ : ∃ s1 : Sp, s1 = { s with d := { s.d with tr := (!decide (IntKind.u8.wrap ((BitVec.ofInt IntKind.u8.bits ((((l.take (min l.length 60)).getD i Stp0).pw : Nat) : Int) &&& BitVec.ofInt IntKind.u8.bits (((16 : Nat) : Int)))).toNat = ((0 : Nat) : Int))) } } := ⟨_, rfl⟩
        have hN5' : Blk w5 b900 25 #[vb, vd, .int .i64 s.d.pw, .bool (!decide (IntKind.u8.wrap ((BitVec.ofInt IntKind.u8.bits ((((l.take (min l.length 60)).getD i Stp0).pw : Nat) : Int) &&& BitVec.ofInt IntKind.u8.bits (((16 : Nat) : Int)))).toNat = ((0 : Nat) : Int)))] := hN5
        clear hN5
        have hS1 : ShM w5 b902 b900 vb vd (.pointer none) s1 := by
          rw [hs1]; exact ⟨⟨vL, uL, vp, hB902, hV, hP⟩, hD.setTr hU5 hN5'⟩
        have hK1 : KS (4 + pl % 8) i s1 none := by
          rw [hs1]; exact hK.disk (by omega) (setTr_chg s.d _) hK.pw
        have hbn1 := Dk.n_pos (d := s1.d) (by rw [hK1.dn]; omega)
        have hdn1 := hK1.dn
        clear hB902 hV hP hD hbn hs1
        obtain ⟨⟨vL, uL, vp, hB902, hV, hP⟩, hD⟩ := hS1
        refine R.nil ?_
        refine E.seq ?_
        refine E.forget [(5, .pointer (some ⟨b902, 0, none⟩)), (8, .pointer (some ⟨b8, 0, none⟩)), (25, (Ytlplogplicgfiaa.cut 5 v 0 (min l.length 60))), (26, .int .i64 (((l.take (min l.length 60)).length : Nat) : Int)), (27, .int .i64 ((i : Nat) : Int))] ⟨rfl, rfl, rfl, rfl, rfl, trivial⟩ (fun e => ?_)
        refine E.regionP rfl ?_
        refine R.fld fa65_0 rfl ?_
        refine R.loadB t5 hB8 rfl rfl rfl trivial ?_
        refine R.remB (m := ((l.take (min l.length 60)).getD i Stp0).kd) (n := 5) rfl rfl (by decide) ?_
        refine R.assign ?_
        refine R.nil ?_
        refine E.seq ?_
        refine E.seq ?_
        refine E.regionP rfl ?_
        refine R.move ?_
        refine R.lss (b := decide (((((((l.take (min l.length 60)).getD i Stp0).kd % 5) : Nat) : Int)) < (((2 : Nat) : Int)))) rfl rfl rfl ?_
        refine R.move ?_
        have hg46 := Bool.eq_false_or_eq_true (decide (((((((l.take (min l.length 60)).getD i Stp0).kd % 5) : Nat) : Int)) < (((2 : Nat) : Int))))
        rcases hg46 with hg46 | hg46
        · have hg46q := hg46
          replace hg46 := dT hg46
          refine R.gT rfl (congrArg Value.bool hg46q) ?_
          refine R.move ?_
          refine R.gT rfl (congrArg Value.bool hg46q) ?_
          refine R.nilCheck rfl ?_
          refine R.gT rfl (congrArg Value.bool hg46q) ?_
          refine R.fld fa69_1 rfl ?_
          refine R.gT rfl (congrArg Value.bool hg46q) ?_
          refine R.loadB t66 hB902 rfl rfl rfl trivial ?_
          refine R.gT rfl (congrArg Value.bool hg46q) ?_
          refine R.eqlNil (b := true) Try.underlying66 rfl rfl rfl ?_
          refine R.pickT (congrArg Value.bool hg46q) ?_
          refine R.nil ?_
          refine E.condT rfl ?_
          refine E.forget [(5, .pointer (some ⟨b902, 0, none⟩)), (8, .pointer (some ⟨b8, 0, none⟩)), (25, (Ytlplogplicgfiaa.cut 5 v 0 (min l.length 60))), (26, .int .i64 (((l.take (min l.length 60)).length : Nat) : Int)), (27, .int .i64 ((i : Nat) : Int))] ⟨rfl, rfl, rfl, rfl, rfl, trivial⟩ (fun e => ?_)
          refine E.regionP rfl ?_
          refine R.assign ?_
          refine R.nil ?_
          refine E.seq ?_
          refine E.regionP rfl ?_
          refine R.assign ?_
          refine R.nil ?_
          refine E.seq ?_
          refine E.seq ?_
          refine E.regionP rfl ?_
          refine R.move ?_
          refine R.nil ?_
          refine E.block ?_
          refine E.seq ?_
          refine E.regionP rfl ?_
          refine R.eql (b := false) rfl rfl (by decide) ?_
          refine R.assign ?_
          refine R.nil ?_
          refine E.condF rfl ?_
          refine E.seq ?_
          refine E.regionP rfl ?_
          refine R.eql (b := false) rfl rfl (by decide) ?_
          refine R.assign ?_
          refine R.nil ?_
          refine E.condF rfl ?_
          refine E.seq ?_
          refine E.regionP rfl ?_
          refine R.eql (b := false) rfl rfl (by decide) ?_
          refine R.assign ?_
          refine R.nil ?_
          refine E.condF rfl ?_
          refine E.seq ?_
          refine E.regionP rfl ?_
          refine R.eql (b := true) rfl rfl (by decide) ?_
          refine R.assign ?_
          refine R.nil ?_
          refine E.condT rfl ?_
          refine E.forget [(5, .pointer (some ⟨b902, 0, none⟩)), (25, (Ytlplogplicgfiaa.cut 5 v 0 (min l.length 60))), (26, .int .i64 (((l.take (min l.length 60)).length : Nat) : Int)), (27, .int .i64 ((i : Nat) : Int))] ⟨rfl, rfl, rfl, rfl, trivial⟩ (fun e => ?_)
          refine E.regionP rfl ?_
          refine R.move ?_
          refine R.call2 ent32 (kopen_ _ (jo := none) (N := w.heap.size) ⟨b900, vb, vd, _, ⟨⟨vL, uL, vp, hB902, hV, hP⟩, hD⟩, hN1, hN2, rfl⟩ hK1 (by omega) (by omega) (by decide)) rfl rfl ?_
          rintro v99 w6 ⟨hU6, rfl, s2, jo2, hX2, hK2, hne2⟩
          refine ⟨nofun, ?_⟩
          replace hE := hE.trans hU6 (fun x hx h => absurd hx (Nat.not_lt.2 h))
          clear hB902 hV hP hD 
          have hX := hX2
          refine R.assign ?_
          refine R.nil ?_
          refine E.seq ?_
          refine E.regionP rfl ?_
          refine R.move ?_
          refine R.not rfl ?_
          refine R.nil ?_
          refine E.condF rfl ?_
          refine E.skip ?_
          refine E.regionP rfl ?_
          refine R.addN (m := i) (n := 1) rfl rfl (by omega) ?_
          refine R.move ?_
          refine R.nil ?_
          exact ⟨(l.take (min l.length 60)).length - (i + 1), by omega, i + 1, s2, jo2, rfl, by omega, hK2, hX, hE, rfl, rfl, rfl, rfl, trivial⟩
        · have hg46q := hg46
          replace hg46 := dF hg46
          refine R.gF rfl (congrArg Value.bool hg46q) rfl ?_
          refine R.gF rfl (congrArg Value.bool hg46q) rfl ?_
          refine R.gF rfl (congrArg Value.bool hg46q) rfl ?_
          refine R.gF rfl (congrArg Value.bool hg46q) rfl ?_
          refine R.gF rfl (congrArg Value.bool hg46q) rfl ?_
          refine R.pickF (congrArg Value.bool hg46q) ?_
          refine R.nil ?_
          refine E.condF rfl ?_
          refine E.skip ?_
          refine E.seq ?_
          refine E.forget [(5, .pointer (some ⟨b902, 0, none⟩)), (8, .pointer (some ⟨b8, 0, none⟩)), (9, .int .u8 (((((l.take (min l.length 60)).getD i Stp0).kd % 5) : Nat) : Int)), (25, (Ytlplogplicgfiaa.cut 5 v 0 (min l.length 60))), (26, .int .i64 (((l.take (min l.length 60)).length : Nat) : Int)), (27, .int .i64 ((i : Nat) : Int))] ⟨rfl, rfl, rfl, rfl, rfl, rfl, trivial⟩ (fun e => ?_)
          refine E.regionP rfl ?_
          refine R.assign ?_
          refine R.nil ?_
          refine E.seq ?_
          refine E.seq ?_
          refine E.regionP rfl ?_
          refine R.move ?_
          refine R.nil ?_
          refine E.block ?_
          refine E.seq ?_
          refine E.regionP rfl ?_
          refine R.eql (b := decide (((((((l.take (min l.length 60)).getD i Stp0).kd % 5) : Nat) : Int)) = (((0 : Nat) : Int)))) rfl rfl rfl ?_
          refine R.assign ?_
          refine R.nil ?_
          refine E.cond (b := decide (((((((l.take (min l.length 60)).getD i Stp0).kd % 5) : Nat) : Int)) = (((0 : Nat) : Int)))) rfl (fun hc54 => ?_) (fun hc54 => ?_)
          · replace hc54 := dT hc54
            exact absurd hc54 (by omega)
          · replace hc54 := dF hc54
            refine E.seq ?_
            refine E.regionP rfl ?_
            refine R.eql (b := decide (((((((l.take (min l.length 60)).getD i Stp0).kd % 5) : Nat) : Int)) = (((1 : Nat) : Int)))) rfl rfl rfl ?_
            refine R.assign ?_
            refine R.nil ?_
            refine E.cond (b := decide (((((((l.take (min l.length 60)).getD i Stp0).kd % 5) : Nat) : Int)) = (((1 : Nat) : Int)))) rfl (fun hc65 => ?_) (fun hc65 => ?_)
            · replace hc65 := dT hc65
              exact absurd hc65 (by omega)
            · replace hc65 := dF hc65
              refine E.seq ?_
              refine E.regionP rfl ?_
              refine R.eql (b := decide (((((((l.take (min l.length 60)).getD i Stp0).kd % 5) : Nat) : Int)) = (((2 : Nat) : Int)))) rfl rfl rfl ?_
              refine R.assign ?_
              refine R.nil ?_
              refine E.cond (b := decide (((((((l.take (min l.length 60)).getD i Stp0).kd % 5) : Nat) : Int)) = (((2 : Nat) : Int)))) rfl (fun hc80 => ?_) (fun hc80 => ?_)
              · replace hc80 := dT hc80
                refine E.regionW (fun c x => x < w5.heap.size ∧ (c = false → ¬ vblk vd = some x)) []  mixed rfl (by kernel_rfl) ?_
                intro w7 hx7 hh7
                replace hD := hD.ext hx7
                replace hV := hV.ext hx7
                replace hP := hP.ext hx7
                replace hB902 := hB902.ext hx7
                replace hB8 := hB8.ext hx7
                replace hE := hE.ext hx7
                have hEs : Ext w7 w7 := Upd.refl _
                have hS0 := hx7.size
                have hSB : ∀ b, b < w7.heap.size → b < w5.heap.size ∧ (true = false → (fun x => ¬ vblk vd = some x) b) := fun b hb => ⟨by rw [hh7] at hb; exact hb, nofun⟩
                have hSA : ∀ b, b < w7.heap.size → (fun x => ¬ vblk vd = some x) b → b < w5.heap.size ∧ (false = false → (fun x => ¬ vblk vd = some x) b) := fun b hb h => ⟨by rw [hh7] at hb; exact hb, fun _ => h⟩
                have hDs := hD
                have hVs := hV
                have hPs := hP
                have hB902s := hB902
                have hB8s := hB8
                refine R.move ?_
                refine R.fld fa65_2 rfl ?_
                refine R.loadB t5 hB8 rfl rfl rfl (hSA b8 hB8s.lt ((hB8s.ne_vblk hDs.bds (by decide)))) ?_
                refine R.toI (n := ((l.take (min l.length 60)).getD i Stp0).bl) Try.underlying5 Try.underlying3 rfl (by omega) ?_
                refine R.move ?_
                refine R.nilCheck rfl ?_
                refine R.fld fa69_0 rfl ?_
                refine R.loadB t32 hB902 rfl rfl rfl (hSA b902 hB902s.lt ((hB902s.ne_vblk hDs.bds (by decide)))) ?_
                refine R.nilCheck rfl ?_
                refine R.fld fa25_1 rfl ?_
                refine R.loadB t23 hD.blk rfl rfl rfl (hSA b900 hDs.blk.lt ((hDs.blk.ne_vblk hDs.bds (by decide)))) ?_
                refine R.len Try.underlying23 hD.bds.row rfl ?_
                refine R.remN (m := (((l.take (min l.length 60)).getD i Stp0).bl)) (n := s1.d.bad.length) rfl rfl (by omega) ?_
                refine R.call2 ent31 (rots_ _ (i := (((l.take (min l.length 60)).getD i Stp0).bl) % s1.d.bad.length) ⟨⟨vL, uL, vp, hB902, hV, hP⟩, hD⟩ (by omega) (by rw [hbn1.2.1.symm, hbn1.1]; exact Nat.mod_lt _ (by omega))) rfl rfl ?_
                rintro v95 w8 ⟨hU8, hS2⟩
                refine ⟨fun _ => hU8.agree (fun x hx => ⟨Nat.lt_of_lt_of_le hx.1 (Nat.le_trans hS0 hEs.size), hx.2 rfl⟩), ?_⟩
                replace hE := hE.trans hU8 (fun x hx h => absurd hx (Nat.not_lt.2 (hN2 x (.inr (.inr h)))))
                replace hB8 := hB8.upS hU8 hD.bds (by decide)
                obtain ⟨s2, jo2, hX, hK2⟩ : ∃ s2 jo2, ShX w8 w.heap.size b902 s2 jo2 ∧ KS (4 + pl % 8) (i + 1) s2 jo2 := ⟨_, none, ⟨b900, vb, vd, _, hS2, hN1, hN2, rfl⟩, (hK1.rot (by omega) (by have := Nat.mod_lt ((l.take (min l.length 60)).getD i Stp0).bl (show 0 < s1.d.bad.length by omega); omega)).more⟩
                clear hB902 hV hP hD 
                refine R.nil ?_
                refine E.seq ?_
                refine E.forget [(5, .pointer (some ⟨b902, 0, none⟩)), (10, .bool (true)), (25, (Ytlplogplicgfiaa.cut 5 v 0 (min l.length 60))), (26, .int .i64 (((l.take (min l.length 60)).length : Nat) : Int)), (27, .int .i64 ((i : Nat) : Int))] ⟨rfl, rfl, rfl, rfl, rfl, trivial⟩ (fun e => ?_)
                refine E.regionP rfl ?_
                refine R.move ?_
                refine R.not rfl ?_
                refine R.nil ?_
                refine E.condF rfl ?_
                refine E.skip ?_
                refine E.regionP rfl ?_
                refine R.addN (m := i) (n := 1) rfl rfl (by omega) ?_
                refine R.move ?_
                refine R.nil ?_
                exact ⟨(l.take (min l.length 60)).length - (i + 1), by omega, i + 1, s2, jo2, rfl, by omega, hK2, hX, hE, rfl, rfl, rfl, rfl, trivial⟩
              · replace hc80 := dF hc80
                refine E.seq ?_
                refine E.regionP rfl ?_
                refine R.eql (b := decide (((((((l.take (min l.length 60)).getD i Stp0).kd % 5) : Nat) : Int)) = (((3 : Nat) : Int)))) rfl rfl rfl ?_
                refine R.assign ?_
                refine R.nil ?_
                refine E.cond (b := decide (((((((l.take (min l.length 60)).getD i Stp0).kd % 5) : Nat) : Int)) = (((3 : Nat) : Int)))) rfl (fun hc96 => ?_) (fun hc96 => ?_)
                · replace hc96 := dT hc96
                  refine E.forget [(5, .pointer (some ⟨b902, 0, none⟩)), (25, (Ytlplogplicgfiaa.cut 5 v 0 (min l.length 60))), (26, .int .i64 (((l.take (min l.length 60)).length : Nat) : Int)), (27, .int .i64 ((i : Nat) : Int))] ⟨rfl, rfl, rfl, rfl, trivial⟩ (fun e => ?_)
                  refine E.regionP rfl ?_
                  refine R.move ?_
                  refine R.call2 ent32 (kopen_ _ (jo := none) (N := w.heap.size) ⟨b900, vb, vd, _, ⟨⟨vL, uL, vp, hB902, hV, hP⟩, hD⟩, hN1, hN2, rfl⟩ hK1 (by omega) (by omega) (by decide)) rfl rfl ?_
                  rintro v99 w9 ⟨hU9, rfl, s2, jo2, hX2, hK2, hne2⟩
                  refine ⟨nofun, ?_⟩
                  replace hE := hE.trans hU9 (fun x hx h => absurd hx (Nat.not_lt.2 h))
                  clear hB902 hV hP hD 
                  have hX := hX2
                  refine R.assign ?_
                  refine R.nil ?_
                  refine E.seq ?_
                  refine E.regionP rfl ?_
                  refine R.move ?_
                  refine R.not rfl ?_
                  refine R.nil ?_
                  refine E.condF rfl ?_
                  refine E.skip ?_
                  refine E.regionP rfl ?_
                  refine R.addN (m := i) (n := 1) rfl rfl (by omega) ?_
                  refine R.move ?_
                  refine R.nil ?_
                  exact ⟨(l.take (min l.length 60)).length - (i + 1), by omega, i + 1, s2, jo2, rfl, by omega, hK2, hX, hE, rfl, rfl, rfl, rfl, trivial⟩
                · replace hc96 := dF hc96
                  refine E.seq ?_
                  refine E.regionP rfl ?_
                  refine R.eql (b := decide (((((((l.take (min l.length 60)).getD i Stp0).kd % 5) : Nat) : Int)) = (((4 : Nat) : Int)))) rfl rfl rfl ?_
                  refine R.assign ?_
                  refine R.nil ?_
                  refine E.cond (b := decide (((((((l.take (min l.length 60)).getD i Stp0).kd % 5) : Nat) : Int)) = (((4 : Nat) : Int)))) rfl (fun hc100 => ?_) (fun hc100 => ?_)
                  · replace hc100 := dT hc100
                    refine E.forget [(5, .pointer (some ⟨b902, 0, none⟩)), (8, .pointer (some ⟨b8, 0, none⟩)), (25, (Ytlplogplicgfiaa.cut 5 v 0 (min l.length 60))), (26, .int .i64 (((l.take (min l.length 60)).length : Nat) : Int)), (27, .int .i64 ((i : Nat) : Int))] ⟨rfl, rfl, rfl, rfl, rfl, trivial⟩ (fun e => ?_)
                    refine E.regionP rfl ?_
                    refine R.move ?_
                    refine R.fld fa65_1 rfl ?_
                    refine R.loadB t5 hB8 rfl rfl rfl trivial ?_
                    refine R.toI (n := ((l.take (min l.length 60)).getD i Stp0).pw) Try.underlying5 Try.underlying3 rfl (by omega) ?_
                    refine R.remN (m := (((l.take (min l.length 60)).getD i Stp0).pw)) (n := 10) rfl rfl (by omega) ?_
                    refine R.call2 ent32 (kopen_ _ (jo := none) (N := w.heap.size) ⟨b900, vb, vd, _, ⟨⟨vL, uL, vp, hB902, hV, hP⟩, hD⟩, hN1, hN2, rfl⟩ hK1 (by omega) (by omega) (by omega)) rfl rfl ?_
                    rintro v107 w10 ⟨hU10, rfl, s2, jo2, hX2, hK2, hne2⟩
                    refine ⟨nofun, ?_⟩
                    replace hE := hE.trans hU10 (fun x hx h => absurd hx (Nat.not_lt.2 h))
                    clear hB902 hV hP hD 
                    have hX := hX2
                    refine R.assign ?_
                    refine R.nil ?_
                    refine E.seq ?_
                    refine E.regionP rfl ?_
                    refine R.move ?_
                    refine R.not rfl ?_
                    refine R.nil ?_
                    refine E.condF rfl ?_
                    refine E.skip ?_
                    refine E.regionP rfl ?_
                    refine R.addN (m := i) (n := 1) rfl rfl (by omega) ?_
                    refine R.move ?_
                    refine R.nil ?_
                    exact ⟨(l.take (min l.length 60)).length - (i + 1), by omega, i + 1, s2, jo2, rfl, by omega, hK2, hX, hE, rfl, rfl, rfl, rfl, trivial⟩
                  · replace hc100 := dF hc100
                    exact absurd hc100 (by omega)
      · obtain ⟨b900, vb, vd, jp, hS, hN1, hN2, b901, vl, us, rfl, hJ, hN3⟩ := hX
        obtain ⟨⟨vL, uL, vp, hB902, hV, hP⟩, hD⟩ := hS
        have hdn := hK.dn
        have hbn := Dk.n_pos (d := s.d) (by omega)
        refine E.regionP rfl ?_
        refine R.ix (m := i) Try.underlying59 t65 (by decide) hr2 rfl rfl (by omega) ?_
        refine R.loadE t65 (by decide) (hr2.ext hE) rfl (stps_at (by omega)) rfl rfl (fun _ _ => trivial) ?_
        refine R.alloc t65 nofun ?_
        intro b8 w11 hb8 hx11 hB8
        replace hb8 := Nat.le_trans hE.size hb8
        replace hD := hD.ext hx11
        replace hV := hV.ext hx11
        replace hP := hP.ext hx11
        replace hJ := hJ.ext hx11
        replace hB902 := hB902.ext hx11
        replace hE := hE.ext hx11
        replace hB8 : Blk _ b8 65 #[.int .u8 0, .int .u8 0, .int .u8 0, .int .u8 0, .int .u16 0] := hB8
        refine R.storeA t65 hB8 rfl rfl rfl rfl (ones5 rfl rfl rfl rfl rfl) nofun ?_
        intro w12 hU12 hs12 hN12
        replace hD := hD.upT hU12 hB8 (by decide)
        replace hV := hV.upT hU12 hB8 (by decide)
        replace hP := hP.upT hU12 hB8 (by decide)
        replace hJ := hJ.upT hU12 hB8 (by decide)
        replace hB902 := hB902.upT hU12 hB8 (by decide)
        replace hE := hE.own hU12 hb8
        replace hB8 : Blk _ b8 65 #[.int .u8 ((((l.take (min l.length 60)).getD i Stp0).kd : Nat) : Int), .int .u8 ((((l.take (min l.length 60)).getD i Stp0).pw : Nat) : Int), .int .u8 ((((l.take (min l.length 60)).getD i Stp0).bl : Nat) : Int), .int .u8 ((((l.take (min l.length 60)).getD i Stp0).dr : Nat) : Int), .int .u16 ((((l.take (min l.length 60)).getD i Stp0).sz : Nat) : Int)] := hN12
        clear hN12
        refine R.nil ?_
        refine E.seq ?_
        refine E.regionW (fun c x => x < w12.heap.size ∧ (c = false → x ≠ b900)) []  mixed rfl (by kernel_rfl) ?_
        intro w13 hx13 hh13
        replace hD := hD.ext hx13
        replace hV := hV.ext hx13
        replace hP := hP.ext hx13
        replace hJ := hJ.ext hx13
        replace hB902 := hB902.ext hx13
        replace hB8 := hB8.ext hx13
        replace hE := hE.ext hx13
        have hEs : Ext w13 w13 := Upd.refl _
        have hS0 := hx13.size
        have hSB : ∀ b, b < w13.heap.size → b < w12.heap.size ∧ (true = false → (fun x => x ≠ b900) b) := fun b hb => ⟨by rw [hh13] at hb; exact hb, nofun⟩
        have hSA : ∀ b, b < w13.heap.size → (fun x => x ≠ b900) b → b < w12.heap.size ∧ (false = false → (fun x => x ≠ b900) b) := fun b hb h => ⟨by rw [hh13] at hb; exact hb, fun _ => h⟩
        have hDs := hD
        have hVs := hV
        have hPs := hP
        have hJs := hJ
        have hB902s := hB902
        have hB8s := hB8
        refine R.move ?_
        refine R.nilCheck rfl ?_
        refine R.fld fa69_0 rfl ?_
        refine R.loadB t32 hB902 rfl rfl rfl (hSA b902 hB902s.lt (hB902s.ne hDs.blk (by decide))) ?_
        refine R.fld fa65_1 rfl ?_
        refine R.loadB t5 hB8 rfl rfl rfl (hSA b8 hB8s.lt (hB8s.ne hDs.blk (by decide))) ?_
        refine R.andB rfl rfl ?_
        refine R.neq (b := !decide ((IntKind.u8.wrap ((BitVec.ofInt IntKind.u8.bits ((((l.take (min l.length 60)).getD i Stp0).pw : Nat) : Int) &&& BitVec.ofInt IntKind.u8.bits (((16 : Nat) : Int)))).toNat) = (((0 : Nat) : Int)))) rfl rfl rfl ?_
        refine R.nilCheck rfl ?_
        refine R.fld fa25_3 rfl ?_
        refine R.store t4 hD.blk rfl rfl rfl (by simp) (fun _ h => h.2 rfl rfl) ?_
        intro w14 hU14 hs14 hN14
        replace hV := hV.upT hU14 hD.blk (by decide)
        replace hP := hP.upT hU14 hD.blk (by decide)
        replace hJ := hJ.upT hU14 hD.blk (by decide)
        replace hB902 := hB902.upT hU14 hD.blk (by decide)
        replace hB8 := hB8.upT hU14 hD.blk (by decide)
        replace hE := hE.trans hU14 (fun x hx h => absurd hx (Nat.not_lt.2 (hN2 x (.inl h))))
        obtain ⟨s1, hs1⟩ : ∃ s1 : Sp, s1 = { s with d := { s.d with tr := (!decide (IntKind.u8.wrap ((BitVec.ofInt IntKind.u8.bits ((((l.take (min l.length 60)).getD i Stp0).pw : Nat) : Int) &&& BitVec.ofInt IntKind.u8.bits (((16 : Nat) : Int)))).toNat = ((0 : Nat) : Int))) } } := ⟨_, rfl⟩
        have hN14' : Blk w14 b900 25 #[vb, vd, .int .i64 s.d.pw, .bool (!decide (IntKind.u8.wrap ((BitVec.ofInt IntKind.u8.bits ((((l.take (min l.length 60)).getD i Stp0).pw : Nat) : Int) &&& BitVec.ofInt IntKind.u8.bits (((16 : Nat) : Int)))).toNat = ((0 : Nat) : Int)))] := hN14
        clear hN14
        have hS1 : ShM w14 b902 b900 vb vd (.pointer (some ⟨b901, 0, none⟩)) s1 := by
          rw [hs1]; exact ⟨⟨vL, uL, vp, hB902, hV, hP⟩, hD.setTr hU14 hN14'⟩
        have hK1 : KS (4 + pl % 8) i s1 (some j) := by
          rw [hs1]; exact hK.disk (by omega) (setTr_chg s.d _) hK.pw
        have hbn1 := Dk.n_pos (d := s1.d) (by rw [hK1.dn]; omega)
        have hdn1 := hK1.dn
        clear hB902 hV hP hD hbn hs1
        obtain ⟨⟨vL, uL, vp, hB902, hV, hP⟩, hD⟩ := hS1
        refine R.nil ?_
        refine E.seq ?_
        refine E.forget [(5, .pointer (some ⟨b902, 0, none⟩)), (8, .pointer (some ⟨b8, 0, none⟩)), (25, (Ytlplogplicgfiaa.cut 5 v 0 (min l.length 60))), (26, .int .i64 (((l.take (min l.length 60)).length : Nat) : Int)), (27, .int .i64 ((i : Nat) : Int))] ⟨rfl, rfl, rfl, rfl, rfl, trivial⟩ (fun e => ?_)
        refine E.regionP rfl ?_
        refine R.fld fa65_0 rfl ?_
        refine R.loadB t5 hB8 rfl rfl rfl trivial ?_
        refine R.remB (m := ((l.take (min l.length 60)).getD i Stp0).kd) (n := 5) rfl rfl (by decide) ?_
        refine R.assign ?_
        refine R.nil ?_
        refine E.seq ?_
        refine E.seq ?_
        refine E.regionP rfl ?_
        refine R.move ?_
        refine R.lss (b := decide (((((((l.take (min l.length 60)).getD i Stp0).kd % 5) : Nat) : Int)) < (((2 : Nat) : Int)))) rfl rfl rfl ?_
        refine R.move ?_
        have hg46 := Bool.eq_false_or_eq_true (decide (((((((l.take (min l.length 60)).getD i Stp0).kd % 5) : Nat) : Int)) < (((2 : Nat) : Int))))
        rcases hg46 with hg46 | hg46
        · have hg46q := hg46
          replace hg46 := dT hg46
          refine R.gT rfl (congrArg Value.bool hg46q) ?_
          refine R.move ?_
          refine R.gT rfl (congrArg Value.bool hg46q) ?_
          refine R.nilCheck rfl ?_
          refine R.gT rfl (congrArg Value.bool hg46q) ?_
          refine R.fld fa69_1 rfl ?_
          refine R.gT rfl (congrArg Value.bool hg46q) ?_
          refine R.loadB t66 hB902 rfl rfl rfl trivial ?_
          refine R.gT rfl (congrArg Value.bool hg46q) ?_
          refine R.eqlNil (b := false) Try.underlying66 rfl rfl rfl ?_
          refine R.pickT (congrArg Value.bool hg46q) ?_
          refine R.nil ?_
          refine E.condF rfl ?_
          refine E.skip ?_
          refine E.seq ?_
          refine E.forget [(5, .pointer (some ⟨b902, 0, none⟩)), (8, .pointer (some ⟨b8, 0, none⟩)), (9, .int .u8 (((((l.take (min l.length 60)).getD i Stp0).kd % 5) : Nat) : Int)), (25, (Ytlplogplicgfiaa.cut 5 v 0 (min l.length 60))), (26, .int .i64 (((l.take (min l.length 60)).length : Nat) : Int)), (27, .int .i64 ((i : Nat) : Int))] ⟨rfl, rfl, rfl, rfl, rfl, rfl, trivial⟩ (fun e => ?_)
          refine E.regionP rfl ?_
          refine R.assign ?_
          refine R.nil ?_
          refine E.seq ?_
          refine E.seq ?_
          refine E.regionP rfl ?_
          refine R.move ?_
          refine R.nil ?_
          refine E.block ?_
          refine E.seq ?_
          refine E.regionP rfl ?_
          refine R.eql (b := decide (((((((l.take (min l.length 60)).getD i Stp0).kd % 5) : Nat) : Int)) = (((0 : Nat) : Int)))) rfl rfl rfl ?_
          refine R.assign ?_
          refine R.nil ?_
          refine E.cond (b := decide (((((((l.take (min l.length 60)).getD i Stp0).kd % 5) : Nat) : Int)) = (((0 : Nat) : Int)))) rfl (fun hc54 => ?_) (fun hc54 => ?_)
          · replace hc54 := dT hc54
            refine E.regionP rfl ?_
            refine R.move ?_
            refine R.fld fa65_4 rfl ?_
            refine R.loadB t63 hB8 rfl rfl rfl trivial ?_
            refine R.toI (n := ((l.take (min l.length 60)).getD i Stp0).sz) Try.underlying63 Try.underlying3 rfl (by omega) ?_
            refine R.remN (m := (((l.take (min l.length 60)).getD i Stp0).sz)) (n := 200) rfl rfl (by omega) ?_
            refine R.fld fa65_3 rfl ?_
            refine R.loadB t5 hB8 rfl rfl rfl trivial ?_
            refine R.toI (n := ((l.take (min l.length 60)).getD i Stp0).dr) Try.underlying5 Try.underlying3 rfl (by omega) ?_
            refine R.call4 ent30 (kapp_ _ (N := w.heap.size) (m := (((l.take (min l.length 60)).getD i Stp0).sz) % 200) (p := ((l.take (min l.length 60)).getD i Stp0).dr) ⟨b900, vb, vd, _, ⟨⟨vL, uL, vp, hB902, hV, hP⟩, hD⟩, hN1, hN2, b901, vl, us, rfl, hJ, hN3⟩ hK1 (by omega) (by omega) (by omega) (by omega) (by decide)) rfl rfl rfl rfl ?_
            rintro v64 w15 ⟨hU15, rfl, s2, jo2, hX2, hK2⟩
            refine ⟨nofun, ?_⟩
            replace hE := hE.trans hU15 (fun x hx h => absurd hx (Nat.not_lt.2 h))
            clear hB902 hV hP hD hJ
            have hX := hX2
            refine R.assign ?_
            refine R.nil ?_
            refine E.seq ?_
            refine E.forget [(5, .pointer (some ⟨b902, 0, none⟩)), (10, .bool (true)), (25, (Ytlplogplicgfiaa.cut 5 v 0 (min l.length 60))), (26, .int .i64 (((l.take (min l.length 60)).length : Nat) : Int)), (27, .int .i64 ((i : Nat) : Int))] ⟨rfl, rfl, rfl, rfl, rfl, trivial⟩ (fun e => ?_)
            refine E.regionP rfl ?_
            refine R.move ?_
            refine R.not rfl ?_
            refine R.nil ?_
            refine E.condF rfl ?_
            refine E.skip ?_
            refine E.regionP rfl ?_
            refine R.addN (m := i) (n := 1) rfl rfl (by omega) ?_
            refine R.move ?_
            refine R.nil ?_
            exact ⟨(l.take (min l.length 60)).length - (i + 1), by omega, i + 1, s2, jo2, rfl, by omega, hK2, hX, hE, rfl, rfl, rfl, rfl, trivial⟩
          · replace hc54 := dF hc54
            refine E.seq ?_
            refine E.regionP rfl ?_
            refine R.eql (b := decide (((((((l.take (min l.length 60)).getD i Stp0).kd % 5) : Nat) : Int)) = (((1 : Nat) : Int)))) rfl rfl rfl ?_
            refine R.assign ?_
            refine R.nil ?_
            refine E.cond (b := decide (((((((l.take (min l.length 60)).getD i Stp0).kd % 5) : Nat) : Int)) = (((1 : Nat) : Int)))) rfl (fun hc65 => ?_) (fun hc65 => ?_)
            · replace hc65 := dT hc65
              refine E.regionP rfl ?_
              refine R.move ?_
              refine R.fld fa65_4 rfl ?_
              refine R.loadB t63 hB8 rfl rfl rfl trivial ?_
              refine R.toI (n := ((l.take (min l.length 60)).getD i Stp0).sz) Try.underlying63 Try.underlying3 rfl (by omega) ?_
              refine R.remN (m := (((l.take (min l.length 60)).getD i Stp0).sz)) (n := 200) rfl rfl (by omega) ?_
              refine R.fld fa65_3 rfl ?_
              refine R.loadB t5 hB8 rfl rfl rfl trivial ?_
              refine R.toI (n := ((l.take (min l.length 60)).getD i Stp0).dr) Try.underlying5 Try.underlying3 rfl (by omega) ?_
              refine R.fld fa65_1 rfl ?_
              refine R.loadB t5 hB8 rfl rfl rfl trivial ?_
              refine R.toI (n := ((l.take (min l.length 60)).getD i Stp0).pw) Try.underlying5 Try.underlying3 rfl (by omega) ?_
              refine R.remN (m := (((l.take (min l.length 60)).getD i Stp0).pw)) (n := 10) rfl rfl (by omega) ?_
              refine R.call4 ent30 (kapp_ _ (N := w.heap.size) (m := (((l.take (min l.length 60)).getD i Stp0).sz) % 200) (p := ((l.take (min l.length 60)).getD i Stp0).dr) ⟨b900, vb, vd, _, ⟨⟨vL, uL, vp, hB902, hV, hP⟩, hD⟩, hN1, hN2, b901, vl, us, rfl, hJ, hN3⟩ hK1 (by omega) (by omega) (by omega) (by omega) (by omega)) rfl rfl rfl rfl ?_
              rintro v79 w16 ⟨hU16, rfl, s2, jo2, hX2, hK2⟩
              refine ⟨nofun, ?_⟩
              replace hE := hE.trans hU16 (fun x hx h => absurd hx (Nat.not_lt.2 h))
              clear hB902 hV hP hD hJ
              have hX := hX2
              refine R.assign ?_
              refine R.nil ?_
              refine E.seq ?_
              refine E.forget [(5, .pointer (some ⟨b902, 0, none⟩)), (10, .bool (true)), (25, (Ytlplogplicgfiaa.cut 5 v 0 (min l.length 60))), (26, .int .i64 (((l.take (min l.length 60)).length : Nat) : Int)), (27, .int .i64 ((i : Nat) : Int))] ⟨rfl, rfl, rfl, rfl, rfl, trivial⟩ (fun e => ?_)
              refine E.regionP rfl ?_
              refine R.move ?_
              refine R.not rfl ?_
              refine R.nil ?_
              refine E.condF rfl ?_
              refine E.skip ?_
              refine E.regionP rfl ?_
              refine R.addN (m := i) (n := 1) rfl rfl (by omega) ?_
              refine R.move ?_
              refine R.nil ?_
              exact ⟨(l.take (min l.length 60)).length - (i + 1), by omega, i + 1, s2, jo2, rfl, by omega, hK2, hX, hE, rfl, rfl, rfl, rfl, trivial⟩
            · replace hc65 := dF hc65
              refine E.seq ?_
              refine E.regionP rfl ?_
              refine R.eql (b := decide (((((((l.take (min l.length 60)).getD i Stp0).kd % 5) : Nat) : Int)) = (((2 : Nat) : Int)))) rfl rfl rfl ?_
              refine R.assign ?_
              refine R.nil ?_
              refine E.cond (b := decide (((((((l.take (min l.length 60)).getD i Stp0).kd % 5) : Nat) : Int)) = (((2 : Nat) : Int)))) rfl (fun hc80 => ?_) (fun hc80 => ?_)
              · replace hc80 := dT hc80
                refine E.regionW (fun c x => x < w14.heap.size ∧ (c = false → ¬ vblk vd = some x)) []  mixed rfl (by kernel_rfl) ?_
                intro w17 hx17 hh17
                replace hD := hD.ext hx17
                replace hV := hV.ext hx17
                replace hP := hP.ext hx17
                replace hJ := hJ.ext hx17
                replace hB902 := hB902.ext hx17
                replace hB8 := hB8.ext hx17
                replace hE := hE.ext hx17
                have hEs : Ext w17 w17 := Upd.refl _
                have hS0 := hx17.size
                have hSB : ∀ b, b < w17.heap.size → b < w14.heap.size ∧ (true = false → (fun x => ¬ vblk vd = some x) b) := fun b hb => ⟨by rw [hh17] at hb; exact hb, nofun⟩
                have hSA : ∀ b, b < w17.heap.size → (fun x => ¬ vblk vd = some x) b → b < w14.heap.size ∧ (false = false → (fun x => ¬ vblk vd = some x) b) := fun b hb h => ⟨by rw [hh17] at hb; exact hb, fun _ => h⟩
                have hDs := hD
                have hVs := hV
                have hPs := hP
                have hJs := hJ
                have hB902s := hB902
                have hB8s := hB8
                refine R.move ?_
                refine R.fld fa65_2 rfl ?_
                refine R.loadB t5 hB8 rfl rfl rfl (hSA b8 hB8s.lt ((hB8s.ne_vblk hDs.bds (by decide)))) ?_
                refine R.toI (n := ((l.take (min l.length 60)).getD i Stp0).bl) Try.underlying5 Try.underlying3 rfl (by omega) ?_
                refine R.move ?_
                refine R.nilCheck rfl ?_
                refine R.fld fa69_0 rfl ?_
                refine R.loadB t32 hB902 rfl rfl rfl (hSA b902 hB902s.lt ((hB902s.ne_vblk hDs.bds (by decide)))) ?_
                refine R.nilCheck rfl ?_
                refine R.fld fa25_1 rfl ?_
                refine R.loadB t23 hD.blk rfl rfl rfl (hSA b900 hDs.blk.lt ((hDs.blk.ne_vblk hDs.bds (by decide)))) ?_
                refine R.len Try.underlying23 hD.bds.row rfl ?_
                refine R.remN (m := (((l.take (min l.length 60)).getD i Stp0).bl)) (n := s1.d.bad.length) rfl rfl (by omega) ?_
                refine R.call2 ent31 (rots_ _ (i := (((l.take (min l.length 60)).getD i Stp0).bl) % s1.d.bad.length) ⟨⟨vL, uL, vp, hB902, hV, hP⟩, hD⟩ (by omega) (by rw [hbn1.2.1.symm, hbn1.1]; exact Nat.mod_lt _ (by omega))) rfl rfl ?_
                rintro v95 w18 ⟨hU18, hS2⟩
                refine ⟨fun _ => hU18.agree (fun x hx => ⟨Nat.lt_of_lt_of_le hx.1 (Nat.le_trans hS0 hEs.size), hx.2 rfl⟩), ?_⟩
                replace hJ := hJ.upS hU18 hD.bds (by decide)
                replace hE := hE.trans hU18 (fun x hx h => absurd hx (Nat.not_lt.2 (hN2 x (.inr (.inr h)))))
                replace hB8 := hB8.upS hU18 hD.bds (by decide)
                obtain ⟨s2, jo2, hX, hK2⟩ : ∃ s2 jo2, ShX w18 w.heap.size b902 s2 jo2 ∧ KS (4 + pl % 8) (i + 1) s2 jo2 := ⟨_, some j, ⟨b900, vb, vd, _, hS2, hN1, hN2, b901, _, _, rfl, hJ, hN3⟩, (hK1.rot (by omega) (by have := Nat.mod_lt ((l.take (min l.length 60)).getD i Stp0).bl (show 0 < s1.d.bad.length by omega); omega)).more⟩
                clear hB902 hV hP hD hJ
                refine R.nil ?_
                refine E.seq ?_
                refine E.forget [(5, .pointer (some ⟨b902, 0, none⟩)), (10, .bool (true)), (25, (Ytlplogplicgfiaa.cut 5 v 0 (min l.length 60))), (26, .int .i64 (((l.take (min l.length 60)).length : Nat) : Int)), (27, .int .i64 ((i : Nat) : Int))] ⟨rfl, rfl, rfl, rfl, rfl, trivial⟩ (fun e => ?_)
                refine E.regionP rfl ?_
                refine R.move ?_
                refine R.not rfl ?_
                refine R.nil ?_
                refine E.condF rfl ?_
                refine E.skip ?_
                refine E.regionP rfl ?_
                refine R.addN (m := i) (n := 1) rfl rfl (by omega) ?_
                refine R.move ?_
                refine R.nil ?_
                exact ⟨(l.take (min l.length 60)).length - (i + 1), by omega, i + 1, s2, jo2, rfl, by omega, hK2, hX, hE, rfl, rfl, rfl, rfl, trivial⟩
              · replace hc80 := dF hc80
                refine E.seq ?_
                refine E.regionP rfl ?_
                refine R.eql (b := decide (((((((l.take (min l.length 60)).getD i Stp0).kd % 5) : Nat) : Int)) = (((3 : Nat) : Int)))) rfl rfl rfl ?_
                refine R.assign ?_
                refine R.nil ?_
                refine E.cond (b := decide (((((((l.take (min l.length 60)).getD i Stp0).kd % 5) : Nat) : Int)) = (((3 : Nat) : Int)))) rfl (fun hc96 => ?_) (fun hc96 => ?_)
                · replace hc96 := dT hc96
                  refine E.forget [(5, .pointer (some ⟨b902, 0, none⟩)), (25, (Ytlplogplicgfiaa.cut 5 v 0 (min l.length 60))), (26, .int .i64 (((l.take (min l.length 60)).length : Nat) : Int)), (27, .int .i64 ((i : Nat) : Int))] ⟨rfl, rfl, rfl, rfl, trivial⟩ (fun e => ?_)
                  refine E.regionP rfl ?_
                  refine R.move ?_
                  refine R.call2 ent32 (kopen_ _ (jo := some j) (N := w.heap.size) ⟨b900, vb, vd, _, ⟨⟨vL, uL, vp, hB902, hV, hP⟩, hD⟩, hN1, hN2, b901, vl, us, rfl, hJ, hN3⟩ hK1 (by omega) (by omega) (by decide)) rfl rfl ?_
                  rintro v99 w19 ⟨hU19, rfl, s2, jo2, hX2, hK2, hne2⟩
                  refine ⟨nofun, ?_⟩
                  replace hE := hE.trans hU19 (fun x hx h => absurd hx (Nat.not_lt.2 h))
                  clear hB902 hV hP hD hJ
                  have hX := hX2
                  refine R.assign ?_
                  refine R.nil ?_
                  refine E.seq ?_
                  refine E.regionP rfl ?_
                  refine R.move ?_
                  refine R.not rfl ?_
                  refine R.nil ?_
                  refine E.condF rfl ?_
                  refine E.skip ?_
                  refine E.regionP rfl ?_
                  refine R.addN (m := i) (n := 1) rfl rfl (by omega) ?_
                  refine R.move ?_
                  refine R.nil ?_
                  exact ⟨(l.take (min l.length 60)).length - (i + 1), by omega, i + 1, s2, jo2, rfl, by omega, hK2, hX, hE, rfl, rfl, rfl, rfl, trivial⟩
                · replace hc96 := dF hc96
                  refine E.seq ?_
                  refine E.regionP rfl ?_
                  refine R.eql (b := decide (((((((l.take (min l.length 60)).getD i Stp0).kd % 5) : Nat) : Int)) = (((4 : Nat) : Int)))) rfl rfl rfl ?_
                  refine R.assign ?_
                  refine R.nil ?_
                  refine E.cond (b := decide (((((((l.take (min l.length 60)).getD i Stp0).kd % 5) : Nat) : Int)) = (((4 : Nat) : Int)))) rfl (fun hc100 => ?_) (fun hc100 => ?_)
                  · replace hc100 := dT hc100
                    refine E.forget [(5, .pointer (some ⟨b902, 0, none⟩)), (8, .pointer (some ⟨b8, 0, none⟩)), (25, (Ytlplogplicgfiaa.cut 5 v 0 (min l.length 60))), (26, .int .i64 (((l.take (min l.length 60)).length : Nat) : Int)), (27, .int .i64 ((i : Nat) : Int))] ⟨rfl, rfl, rfl, rfl, rfl, trivial⟩ (fun e => ?_)
                    refine E.regionP rfl ?_
                    refine R.move ?_
                    refine R.fld fa65_1 rfl ?_
                    refine R.loadB t5 hB8 rfl rfl rfl trivial ?_
                    refine R.toI (n := ((l.take (min l.length 60)).getD i Stp0).pw) Try.underlying5 Try.underlying3 rfl (by omega) ?_
                    refine R.remN (m := (((l.take (min l.length 60)).getD i Stp0).pw)) (n := 10) rfl rfl (by omega) ?_
                    refine R.call2 ent32 (kopen_ _ (jo := some j) (N := w.heap.size) ⟨b900, vb, vd, _, ⟨⟨vL, uL, vp, hB902, hV, hP⟩, hD⟩, hN1, hN2, b901, vl, us, rfl, hJ, hN3⟩ hK1 (by omega) (by omega) (by omega)) rfl rfl ?_
                    rintro v107 w20 ⟨hU20, rfl, s2, jo2, hX2, hK2, hne2⟩
                    refine ⟨nofun, ?_⟩
                    replace hE := hE.trans hU20 (fun x hx h => absurd hx (Nat.not_lt.2 h))
                    clear hB902 hV hP hD hJ
                    have hX := hX2
                    refine R.assign ?_
                    refine R.nil ?_
                    refine E.seq ?_
                    refine E.regionP rfl ?_
                    refine R.move ?_
                    refine R.not rfl ?_
                    refine R.nil ?_
                    refine E.condF rfl ?_
                    refine E.skip ?_
                    refine E.regionP rfl ?_
                    refine R.addN (m := i) (n := 1) rfl rfl (by omega) ?_
                    refine R.move ?_
                    refine R.nil ?_
                    exact ⟨(l.take (min l.length 60)).length - (i + 1), by omega, i + 1, s2, jo2, rfl, by omega, hK2, hX, hE, rfl, rfl, rfl, rfl, trivial⟩
                  · replace hc100 := dF hc100
                    exact absurd hc100 (by omega)
        · have hg46q := hg46
          replace hg46 := dF hg46
          refine R.gF rfl (congrArg Value.bool hg46q) rfl ?_
          refine R.gF rfl (congrArg Value.bool hg46q) rfl ?_
          refine R.gF rfl (congrArg Value.bool hg46q) rfl ?_
          refine R.gF rfl (congrArg Value.bool hg46q) rfl ?_
          refine R.gF rfl (congrArg Value.bool hg46q) rfl ?_
          refine R.pickF (congrArg Value.bool hg46q) ?_
          refine R.nil ?_
          refine E.condF rfl ?_
          refine E.skip ?_
          refine E.seq ?_
          refine E.forget [(5, .pointer (some ⟨b902, 0, none⟩)), (8, .pointer (some ⟨b8, 0, none⟩)), (9, .int .u8 (((((l.take (min l.length 60)).getD i Stp0).kd % 5) : Nat) : Int)), (25, (Ytlplogplicgfiaa.cut 5 v 0 (min l.length 60))), (26, .int .i64 (((l.take (min l.length 60)).length : Nat) : Int)), (27, .int .i64 ((i : Nat) : Int))] ⟨rfl, rfl, rfl, rfl, rfl, rfl, trivial⟩ (fun e => ?_)
          refine E.regionP rfl ?_
          refine R.assign ?_
          refine R.nil ?_
          refine E.seq ?_
          refine E.seq ?_
          refine E.regionP rfl ?_
          refine R.move ?_
          refine R.nil ?_
          refine E.block ?_
          refine E.seq ?_
          refine E.regionP rfl ?_
          refine R.eql (b := decide (((((((l.take (min l.length 60)).getD i Stp0).kd % 5) : Nat) : Int)) = (((0 : Nat) : Int)))) rfl rfl rfl ?_
          refine R.assign ?_
          refine R.nil ?_
          refine E.cond (b := decide (((((((l.take (min l.length 60)).getD i Stp0).kd % 5) : Nat) : Int)) = (((0 : Nat) : Int)))) rfl (fun hc54 => ?_) (fun hc54 => ?_)
          · replace hc54 := dT hc54
            refine E.regionP rfl ?_
            refine R.move ?_
            refine R.fld fa65_4 rfl ?_
            refine R.loadB t63 hB8 rfl rfl rfl trivial ?_
            refine R.toI (n := ((l.take (min l.length 60)).getD i Stp0).sz) Try.underlying63 Try.underlying3 rfl (by omega) ?_
            refine R.remN (m := (((l.take (min l.length 60)).getD i Stp0).sz)) (n := 200) rfl rfl (by omega) ?_
            refine R.fld fa65_3 rfl ?_
            refine R.loadB t5 hB8 rfl rfl rfl trivial ?_
            refine R.toI (n := ((l.take (min l.length 60)).getD i Stp0).dr) Try.underlying5 Try.underlying3 rfl (by omega) ?_
            refine R.call4 ent30 (kapp_ _ (N := w.heap.size) (m := (((l.take (min l.length 60)).getD i Stp0).sz) % 200) (p := ((l.take (min l.length 60)).getD i Stp0).dr) ⟨b900, vb, vd, _, ⟨⟨vL, uL, vp, hB902, hV, hP⟩, hD⟩, hN1, hN2, b901, vl, us, rfl, hJ, hN3⟩ hK1 (by omega) (by omega) (by omega) (by omega) (by decide)) rfl rfl rfl rfl ?_
            rintro v64 w21 ⟨hU21, rfl, s2, jo2, hX2, hK2⟩
            refine ⟨nofun, ?_⟩
            replace hE := hE.trans hU21 (fun x hx h => absurd hx (Nat.not_lt.2 h))
            clear hB902 hV hP hD hJ
            have hX := hX2
            refine R.assign ?_
            refine R.nil ?_
            refine E.seq ?_
            refine E.forget [(5, .pointer (some ⟨b902, 0, none⟩)), (10, .bool (true)), (25, (Ytlplogplicgfiaa.cut 5 v 0 (min l.length 60))), (26, .int .i64 (((l.take (min l.length 60)).length : Nat) : Int)), (27, .int .i64 ((i : Nat) : Int))] ⟨rfl, rfl, rfl, rfl, rfl, trivial⟩ (fun e => ?_)
            refine E.regionP rfl ?_
            refine R.move ?_
            refine R.not rfl ?_
            refine R.nil ?_
            refine E.condF rfl ?_
            refine E.skip ?_
            refine E.regionP rfl ?_
            refine R.addN (m := i) (n := 1) rfl rfl (by omega) ?_
            refine R.move ?_
            refine R.nil ?_
            exact ⟨(l.take (min l.length 60)).length - (i + 1), by omega, i + 1, s2, jo2, rfl, by omega, hK2, hX, hE, rfl, rfl, rfl, rfl, trivial⟩
          · replace hc54 := dF hc54
            refine E.seq ?_
            refine E.regionP rfl ?_
            refine R.eql (b := decide (((((((l.take (min l.length 60)).getD i Stp0).kd % 5) : Nat) : Int)) = (((1 : Nat) : Int)))) rfl rfl rfl ?_
            refine R.assign ?_
            refine R.nil ?_
            refine E.cond (b := decide (((((((l.take (min l.length 60)).getD i Stp0).kd % 5) : Nat) : Int)) = (((1 : Nat) : Int)))) rfl (fun hc65 => ?_) (fun hc65 => ?_)
            · replace hc65 := dT hc65
              refine E.regionP rfl ?_
              refine R.move ?_
              refine R.fld fa65_4 rfl ?_
              refine R.loadB t63 hB8 rfl rfl rfl trivial ?_
              refine R.toI (n := ((l.take (min l.length 60)).getD i Stp0).sz) Try.underlying63 Try.underlying3 rfl (by omega) ?_
              refine R.remN (m := (((l.take (min l.length 60)).getD i Stp0).sz)) (n := 200) rfl rfl (by omega) ?_
              refine R.fld fa65_3 rfl ?_
              refine R.loadB t5 hB8 rfl rfl rfl trivial ?_
              refine R.toI (n := ((l.take (min l.length 60)).getD i Stp0).dr) Try.underlying5 Try.underlying3 rfl (by omega) ?_
              refine R.fld fa65_1 rfl ?_
              refine R.loadB t5 hB8 rfl rfl rfl trivial ?_
              refine R.toI (n := ((l.take (min l.length 60)).getD i Stp0).pw) Try.underlying5 Try.underlying3 rfl (by omega) ?_
              refine R.remN (m := (((l.take (min l.length 60)).getD i Stp0).pw)) (n := 10) rfl rfl (by omega) ?_
              refine R.call4 ent30 (kapp_ _ (N := w.heap.size) (m := (((l.take (min l.length 60)).getD i Stp0).sz) % 200) (p := ((l.take (min l.length 60)).getD i Stp0).dr) ⟨b900, vb, vd, _, ⟨⟨vL, uL, vp, hB902, hV, hP⟩, hD⟩, hN1, hN2, b901, vl, us, rfl, hJ, hN3⟩ hK1 (by omega) (by omega) (by omega) (by omega) (by omega)) rfl rfl rfl rfl ?_
              rintro v79 w22 ⟨hU22, rfl, s2, jo2, hX2, hK2⟩
              refine ⟨nofun, ?_⟩
              replace hE := hE.trans hU22 (fun x hx h => absurd hx (Nat.not_lt.2 h))
              clear hB902 hV hP hD hJ
              have hX := hX2
              refine R.assign ?_
              refine R.nil ?_
              refine E.seq ?_
              refine E.forget [(5, .pointer (some ⟨b902, 0, none⟩)), (10, .bool (true)), (25, (Ytlplogplicgfiaa.cut 5 v 0 (min l.length 60))), (26, .int .i64 (((l.take (min l.length 60)).length : Nat) : Int)), (27, .int .i64 ((i : Nat) : Int))] ⟨rfl, rfl, rfl, rfl, rfl, trivial⟩ (fun e => ?_)
              refine E.regionP rfl ?_
              refine R.move ?_
              refine R.not rfl ?_
              refine R.nil ?_
              refine E.condF rfl ?_
              refine E.skip ?_
              refine E.regionP rfl ?_
              refine R.addN (m := i) (n := 1) rfl rfl (by omega) ?_
              refine R.move ?_
              refine R.nil ?_
              exact ⟨(l.take (min l.length 60)).length - (i + 1), by omega, i + 1, s2, jo2, rfl, by omega, hK2, hX, hE, rfl, rfl, rfl, rfl, trivial⟩
            · replace hc65 := dF hc65
              refine E.seq ?_
              refine E.regionP rfl ?_
              refine R.eql (b := decide (((((((l.take (min l.length 60)).getD i Stp0).kd % 5) : Nat) : Int)) = (((2 : Nat) : Int)))) rfl rfl rfl ?_
              refine R.assign ?_
              refine R.nil ?_
              refine E.cond (b := decide (((((((l.take (min l.length 60)).getD i Stp0).kd % 5) : Nat) : Int)) = (((2 : Nat) : Int)))) rfl (fun hc80 => ?_) (fun hc80 => ?_)
              · replace hc80 := dT hc80
                refine E.regionW (fun c x => x < w14.heap.size ∧ (c = false → ¬ vblk vd = some x)) []  mixed rfl (by kernel_rfl) ?_
                intro w23 hx23 hh23
                replace hD := hD.ext hx23
                replace hV := hV.ext hx23
                replace hP := hP.ext hx23
                replace hJ := hJ.ext hx23
                replace hB902 := hB902.ext hx23
                replace hB8 := hB8.ext hx23
                replace hE := hE.ext hx23
                have hEs : Ext w23 w23 := Upd.refl _
                have hS0 := hx23.size
                have hSB : ∀ b, b < w23.heap.size → b < w14.heap.size ∧ (true = false → (fun x => ¬ vblk vd = some x) b) := fun b hb => ⟨by rw [hh23] at hb; exact hb, nofun⟩
                have hSA : ∀ b, b < w23.heap.size → (fun x => ¬ vblk vd = some x) b → b < w14.heap.size ∧ (false = false → (fun x => ¬ vblk vd = some x) b) := fun b hb h => ⟨by rw [hh23] at hb; exact hb, fun _ => h⟩
                have hDs := hD
                have hVs := hV
                have hPs := hP
                have hJs := hJ
                have hB902s := hB902
                have hB8s := hB8
                refine R.move ?_
                refine R.fld fa65_2 rfl ?_
                refine R.loadB t5 hB8 rfl rfl rfl (hSA b8 hB8s.lt ((hB8s.ne_vblk hDs.bds (by decide)))) ?_
                refine R.toI (n := ((l.take (min l.length 60)).getD i Stp0).bl) Try.underlying5 Try.underlying3 rfl (by omega) ?_
                refine R.move ?_
                refine R.nilCheck rfl ?_
                refine R.fld fa69_0 rfl ?_
                refine R.loadB t32 hB902 rfl rfl rfl (hSA b902 hB902s.lt ((hB902s.ne_vblk hDs.bds (by decide)))) ?_
                refine R.nilCheck rfl ?_
                refine R.fld fa25_1 rfl ?_
                refine R.loadB t23 hD.blk rfl rfl rfl (hSA b900 hDs.blk.lt ((hDs.blk.ne_vblk hDs.bds (by decide)))) ?_
                refine R.len Try.underlying23 hD.bds.row rfl ?_
                refine R.remN (m := (((l.take (min l.length 60)).getD i Stp0).bl)) (n := s1.d.bad.length) rfl rfl (by omega) ?_
                refine R.call2 ent31 (rots_ _ (i := (((l.take (min l.length 60)).getD i Stp0).bl) % s1.d.bad.length) ⟨⟨vL, uL, vp, hB902, hV, hP⟩, hD⟩ (by omega) (by rw [hbn1.2.1.symm, hbn1.1]; exact Nat.mod_lt _ (by omega))) rfl rfl ?_
                rintro v95 w24 ⟨hU24, hS2⟩
                refine ⟨fun _ => hU24.agree (fun x hx => ⟨Nat.lt_of_lt_of_le hx.1 (Nat.le_trans hS0 hEs.size), hx.2 rfl⟩), ?_⟩
                replace hJ := hJ.upS hU24 hD.bds (by decide)
                replace hE := hE.trans hU24 (fun x hx h => absurd hx (Nat.not_lt.2 (hN2 x (.inr (.inr h)))))
                replace hB8 := hB8.upS hU24 hD.bds (by decide)
                obtain ⟨s2, jo2, hX, hK2⟩ : ∃ s2 jo2, ShX w24 w.heap.size b902 s2 jo2 ∧ KS (4 + pl % 8) (i + 1) s2 jo2 := ⟨_, some j, ⟨b900, vb, vd, _, hS2, hN1, hN2, b901, _, _, rfl, hJ, hN3⟩, (hK1.rot (by omega) (by have := Nat.mod_lt ((l.take (min l.length 60)).getD i Stp0).bl (show 0 < s1.d.bad.length by omega); omega)).more⟩
                clear hB902 hV hP hD hJ
                refine R.nil ?_
                refine E.seq ?_
                refine E.forget [(5, .pointer (some ⟨b902, 0, none⟩)), (10, .bool (true)), (25, (Ytlplogplicgfiaa.cut 5 v 0 (min l.length 60))), (26, .int .i64 (((l.take (min l.length 60)).length : Nat) : Int)), (27, .int .i64 ((i : Nat) : Int))] ⟨rfl, rfl, rfl, rfl, rfl, trivial⟩ (fun e => ?_)
                refine E.regionP rfl ?_
                refine R.move ?_
                refine R.not rfl ?_
                refine R.nil ?_
                refine E.condF rfl ?_
                refine E.skip ?_
                refine E.regionP rfl ?_
                refine R.addN (m := i) (n := 1) rfl rfl (by omega) ?_
                refine R.move ?_
                refine R.nil ?_
                exact ⟨(l.take (min l.length 60)).length - (i + 1), by omega, i + 1, s2, jo2, rfl, by omega, hK2, hX, hE, rfl, rfl, rfl, rfl, trivial⟩
              · replace hc80 := dF hc80
                refine E.seq ?_
                refine E.regionP rfl ?_
                refine R.eql (b := decide (((((((l.take (min l.length 60)).getD i Stp0).kd % 5) : Nat) : Int)) = (((3 : Nat) : Int)))) rfl rfl rfl ?_
                refine R.assign ?_
                refine R.nil ?_
                refine E.cond (b := decide (((((((l.take (min l.length 60)).getD i Stp0).kd % 5) : Nat) : Int)) = (((3 : Nat) : Int)))) rfl (fun hc96 => ?_) (fun hc96 => ?_)
                · replace hc96 := dT hc96
                  refine E.forget [(5, .pointer (some ⟨b902, 0, none⟩)), (25, (Ytlplogplicgfiaa.cut 5 v 0 (min l.length 60))), (26, .int .i64 (((l.take (min l.length 60)).length : Nat) : Int)), (27, .int .i64 ((i : Nat) : Int))] ⟨rfl, rfl, rfl, rfl, trivial⟩ (fun e => ?_)
                  refine E.regionP rfl ?_
                  refine R.move ?_
                  refine R.call2 ent32 (kopen_ _ (jo := some j) (N := w.heap.size) ⟨b900, vb, vd, _, ⟨⟨vL, uL, vp, hB902, hV, hP⟩, hD⟩, hN1, hN2, b901, vl, us, rfl, hJ, hN3⟩ hK1 (by omega) (by omega) (by decide)) rfl rfl ?_
                  rintro v99 w25 ⟨hU25, rfl, s2, jo2, hX2, hK2, hne2⟩
                  refine ⟨nofun, ?_⟩
                  replace hE := hE.trans hU25 (fun x hx h => absurd hx (Nat.not_lt.2 h))
                  clear hB902 hV hP hD hJ
                  have hX := hX2
                  refine R.assign ?_
                  refine R.nil ?_
                  refine E.seq ?_
                  refine E.regionP rfl ?_
                  refine R.move ?_
                  refine R.not rfl ?_
                  refine R.nil ?_
                  refine E.condF rfl ?_
                  refine E.skip ?_
                  refine E.regionP rfl ?_
                  refine R.addN (m := i) (n := 1) rfl rfl (by omega) ?_
                  refine R.move ?_
                  refine R.nil ?_
                  exact ⟨(l.take (min l.length 60)).length - (i + 1), by omega, i + 1, s2, jo2, rfl, by omega, hK2, hX, hE, rfl, rfl, rfl, rfl, trivial⟩
                · replace hc96 := dF hc96
                  refine E.seq ?_
                  refine E.regionP rfl ?_
                  refine R.eql (b := decide (((((((l.take (min l.length 60)).getD i Stp0).kd % 5) : Nat) : Int)) = (((4 : Nat) : Int)))) rfl rfl rfl ?_
                  refine R.assign ?_
                  refine R.nil ?_
                  refine E.cond (b := decide (((((((l.take (min l.length 60)).getD i Stp0).kd % 5) : Nat) : Int)) = (((4 : Nat) : Int)))) rfl (fun hc100 => ?_) (fun hc100 => ?_)
                  · replace hc100 := dT hc100
                    refine E.forget [(5, .pointer (some ⟨b902, 0, none⟩)), (8, .pointer (some ⟨b8, 0, none⟩)), (25, (Ytlplogplicgfiaa.cut 5 v 0 (min l.length 60))), (26, .int .i64 (((l.take (min l.length 60)).length : Nat) : Int)), (27, .int .i64 ((i : Nat) : Int))] ⟨rfl, rfl, rfl, rfl, rfl, trivial⟩ (fun e => ?_)
                    refine E.regionP rfl ?_
                    refine R.move ?_
                    refine R.fld fa65_1 rfl ?_
                    refine R.loadB t5 hB8 rfl rfl rfl trivial ?_
                    refine R.toI (n := ((l.take (min l.length 60)).getD i Stp0).pw) Try.underlying5 Try.underlying3 rfl (by omega) ?_
                    refine R.remN (m := (((l.take (min l.length 60)).getD i Stp0).pw)) (n := 10) rfl rfl (by omega) ?_
                    refine R.call2 ent32 (kopen_ _ (jo := some j) (N := w.heap.size) ⟨b900, vb, vd, _, ⟨⟨vL, uL, vp, hB902, hV, hP⟩, hD⟩, hN1, hN2, b901, vl, us, rfl, hJ, hN3⟩ hK1 (by omega) (by omega) (by omega)) rfl rfl ?_
                    rintro v107 w26 ⟨hU26, rfl, s2, jo2, hX2, hK2, hne2⟩
                    refine ⟨nofun, ?_⟩
                    replace hE := hE.trans hU26 (fun x hx h => absurd hx (Nat.not_lt.2 h))
                    clear hB902 hV hP hD hJ
                    have hX := hX2
                    refine R.assign ?_
                    refine R.nil ?_
                    refine E.seq ?_
                    refine E.regionP rfl ?_
                    refine R.move ?_
                    refine R.not rfl ?_
                    refine R.nil ?_
                    refine E.condF rfl ?_
                    refine E.skip ?_
                    refine E.regionP rfl ?_
                    refine R.addN (m := i) (n := 1) rfl rfl (by omega) ?_
                    refine R.move ?_
                    refine R.nil ?_
                    exact ⟨(l.take (min l.length 60)).length - (i + 1), by omega, i + 1, s2, jo2, rfl, by omega, hK2, hX, hE, rfl, rfl, rfl, rfl, trivial⟩
                  · replace hc100 := dF hc100
                    exact absurd hc100 (by omega)
    · replace hc28 := dF hc28
      have hi60 : i ≤ 60 := by have := List.length_take_le (min l.length 60) l; omega
      refine E.exit ?_
      refine E.seq ?_
      refine E.regionP rfl ?_
      refine R.move ?_
      refine R.call2 ent32 (kopen_ _ (N := w.heap.size) hX hK (by omega) (by omega) (by decide)) rfl rfl ?_
      rintro v112 w27 ⟨hU27, rfl, s3, jo3, hX3, hK3, hne3⟩
      refine ⟨nofun, ?_⟩
      replace hE := hE.trans hU27 (fun x hx h => absurd hx (Nat.not_lt.2 h))
      clear hX
      obtain ⟨j3, rfl⟩ : ∃ j, jo3 = some j := by
        cases jo3 with
        | none => exact absurd rfl (hne3 (by decide))
        | some j => exact ⟨j, rfl⟩
      obtain ⟨b900, vb, vd, jp, hS, hN1, hN2, b901, vl, us, rfl, hJ, hN3⟩ := hX3
      obtain ⟨⟨vL, uL, vp, hB902, hV, hP⟩, hD⟩ := hS
      refine R.move ?_
      refine R.gT rfl rfl ?_
      refine R.move ?_
      refine R.gT rfl rfl ?_
      refine R.nilCheck rfl ?_
      refine R.gT rfl rfl ?_
      refine R.fld fa69_1 rfl ?_
      refine R.gT rfl rfl ?_
      refine R.loadB t66 hB902 rfl rfl rfl trivial ?_
      refine R.gT rfl rfl ?_
      refine R.neqNil (b := true) Try.underlying66 rfl rfl rfl ?_
      refine R.pickT rfl ?_
      refine R.move ?_
      refine R.gT rfl rfl ?_
      refine R.callE0 ent13 (awake_ _)  nofun ?_
      rintro v121 w28 hx28 rfl
      replace hD := hD.ext hx28
      replace hV := hV.ext hx28
      replace hP := hP.ext hx28
      replace hJ := hJ.ext hx28
      replace hB902 := hB902.ext hx28
      replace hE := hE.ext hx28
      refine R.pickT rfl ?_
      refine R.assign ?_
      refine R.nil ?_
      refine E.ret ?_
      refine ret1 (.bool (true)) rfl rfl ⟨_, rfl, ?_⟩
      exact ⟨hE, rfl⟩
end Go.Proofs.Ytlplogplicgfiaa
