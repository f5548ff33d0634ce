import Derived.Test.YtlplogplicgfiaaZ10KI
namespace Go.Proofs.Ytlplogplicgfiaa
open Go Go.RowKit
def SO (p pd : Nat) (vb vd : Value) (x : Nat) : Prop := x = p ∨ DB pd vb vd x
def OpenC (s : Sp) (power : Int) : Prop :=
  (∃ d', openL (s.d.setPw power) = (d', 420, none) ∧ 0 ≤ power ∧ d'.pw = 0) ∨
  (∃ d' j, openL (s.d.setPw power) = (d', 0, some j) ∧ HoldP j s.live s.first) ∨
  (∃ d' j, openL (s.d.setPw power) = (d', 0, some j) ∧ s.waits = true ∧ s.first ≤ s.frm ∧ s.frm ≤ s.first + s.live.length ∧ HoldP j (s.live.drop (s.frm - s.first) ++ [s.pend]) s.frm)
def OpRes (w w' : World) (p pd : Nat) (vb vd : Value) (s : Sp) (power : Int) : Prop :=
  (∃ d', openL (s.d.setPw power) = (d', 420, none) ∧ ShM w' p pd vb vd (.pointer none) { s with d := d' }) ∨
  (∃ d' j pj vl us, openL (s.d.setPw power) = (d', 0, some j) ∧ HoldP j s.live s.first ∧ JM w' pj pd vl us j ∧ w.heap.size ≤ pj ∧ ShM w' p pd vb vd (.pointer (some ⟨pj, 0, none⟩)) { s with d := d', waits := false }) ∨
  (∃ d' j pj vl us, openL (s.d.setPw power) = (d', 0, some j) ∧ s.waits = true ∧ HoldP j (s.live.drop (s.frm - s.first) ++ [s.pend]) s.frm ∧ JM w' pj pd vl us j ∧ w.heap.size ≤ pj ∧ ShM w' p pd vb vd (.pointer (some ⟨pj, 0, none⟩)) { s with d := d', live := s.live.drop (s.frm - s.first) ++ [s.pend], first := s.frm, waits := false })
theorem sopen_ (w : World) {b902 b900 : Nat} {vb vd jp : Value} {s : Sp} {power : Int} (hS : ShM w b902 b900 vb vd jp s) (hpw : power ≤ 9223372036854775807) (hfr : s.first ≤ 9000000000) (hln : s.live.length ≤ 100000) (hO : OpenC s power) :
    Calls Try.prog 32 #[.pointer (some ⟨b902, 0, none⟩), .int .i64 power] w (Ret fun r w' => Upd (SO b902 b900 vb vd) w w' ∧ r = .bool true ∧ OpRes w w' b902 b900 vb vd s power) := by
  obtain ⟨⟨vL, uL, vp, hB902, hV, hP⟩, hD⟩ := hS
  refine calls_E (args := [.pointer (some ⟨b902, 0, none⟩), .int .i64 (power)]) 87 Try.func32 rfl rfl (by simp) ?_
  have hE : Upd (SO b902 b900 vb vd) w w := Upd.refl w
  refine E.seq ?_
  refine E.regionP rfl ?_
  refine R.assign ?_
  refine R.nil ?_
  refine E.seq ?_
  refine E.regionP rfl ?_
  refine R.move ?_
  refine R.nilCheck rfl ?_
  refine R.fld fa69_0 rfl ?_
  refine R.loadB t32 hB902 rfl rfl rfl trivial ?_
  refine R.move ?_
  refine R.nilCheck rfl ?_
  refine R.fld fa25_2 rfl ?_
  refine R.store t3 hD.blk rfl rfl rfl (by simp) nofun ?_
  intro w1 hU1 hs1 hN1
  replace hV := hV.upT hU1 hD.blk (by decide)
  replace hP := hP.upT hU1 hD.blk (by decide)
  replace hB902 := hB902.upT hU1 hD.blk (by decide)
  replace hE := hE.trans hU1 (fun x _ h => .inr (.inl h))
  replace hD : DM _ b900 vb vd (s.d.setPw power) := hD.setPw hU1 hN1
  refine R.nil ?_
  refine E.seq ?_
  have hsz0 := hE.size
  rcases hO with ⟨dd, hO1, hO2, hO3⟩ | ⟨dd, jj, hO1, hO2⟩ | ⟨dd, jj, hO1, hO2, hO3, hO4, hO5⟩
  · refine E.regionP rfl ?_
    refine R.move ?_
    refine R.nilCheck rfl ?_
    refine R.fld fa69_0 rfl ?_
    refine R.loadB t32 hB902 rfl rfl rfl trivial ?_
    refine R.call1 ent39 (openP _ hD hpw hO1) rfl ?_
    rintro v19 w2 ⟨hU2, hDn2, hR19⟩
    refine ⟨nofun, ?_⟩
    replace hV := hV.upD hU2 hD (by decide)
    replace hP := hP.upD hU2 hD (by decide)
    replace hB902 := hB902.upD hU2 hD (by decide)
    replace hE := hE.trans hU2 (fun x _ h => .inr h)
    clear hD
    have hD := hDn2
    replace hR19 : _ = Value.tuple #[.pointer none, .int .i64 ((420 : Nat) : Int)] := hR19
    subst hR19
    refine R.move ?_
    refine R.extract rfl rfl ?_
    refine R.extract rfl rfl ?_
    refine R.assign ?_
    refine R.assign ?_
    refine R.nil ?_
    refine E.seq ?_
    refine E.seq ?_
    refine E.forget [(0, .pointer (some ⟨b902, 0, none⟩)), (1, .int .i64 (power)), (5, .pointer none), (6, .int .i64 ((420 : Nat) : Int))] ⟨rfl, rfl, rfl, rfl, trivial⟩ (fun e => ?_)
    refine E.regionP rfl ?_
    refine R.move ?_
    refine R.eql (b := true) rfl rfl (by decide) ?_
    refine R.nil ?_
    refine E.condT rfl ?_
    refine E.seq ?_
    refine E.regionP rfl ?_
    refine R.move ?_
    refine R.nilCheck rfl ?_
    refine R.fld fa69_1 rfl ?_
    refine R.store t66 hB902 rfl rfl (rfl) (by simp) nofun ?_
    intro w3 hU3 hs3 hN3
    replace hD := hD.upT hU3 hB902 (by decide)
    replace hV := hV.upT hU3 hB902 (by decide)
    replace hP := hP.upT hU3 hB902 (by decide)
    replace hE := hE.trans hU3 (fun x _ h => .inl h)
    replace hB902 : Blk _ b902 69 #[.pointer (some ⟨b900, 0, none⟩), .pointer none, vL, .int .i64 ((s.first : Nat) : Int), vp, .bool (s.waits), .int .i64 ((s.frm : Nat) : Int), .int .i64 ((s.cnt : Nat) : Int)] := hN3
    clear hN3
    refine R.nil ?_
    refine E.seq ?_
    refine E.regionP rfl ?_
    refine R.move ?_
    refine R.geq (b := decide ((((0 : Nat) : Int)) ≤ (power))) rfl rfl rfl ?_
    refine R.move ?_
    have hg29 := Bool.eq_false_or_eq_true (decide ((((0 : Nat) : Int)) ≤ (power)))
    rcases hg29 with hg29 | hg29
    · have hg29q := hg29
      replace hg29 := dT hg29
      refine R.gT rfl (congrArg Value.bool hg29q) ?_
      refine R.move ?_
      refine R.gT rfl (congrArg Value.bool hg29q) ?_
      refine R.eqlNil (b := true) Try.underlying66 rfl rfl rfl ?_
      refine R.pickT (congrArg Value.bool hg29q) ?_
      refine R.move ?_
      refine R.gT rfl rfl ?_
      refine R.move ?_
      refine R.gT rfl rfl ?_
      refine R.nilCheck rfl ?_
      refine R.gT rfl rfl ?_
      refine R.fld fa69_0 rfl ?_
      refine R.gT rfl rfl ?_
      refine R.loadB t32 hB902 rfl rfl rfl trivial ?_
      refine R.gT rfl rfl ?_
      refine R.nilCheck rfl ?_
      refine R.gT rfl rfl ?_
      refine R.fld fa25_2 rfl ?_
      refine R.gT rfl rfl ?_
      refine R.loadB t3 hD.blk rfl rfl rfl trivial ?_
      refine R.gT rfl rfl ?_
      refine R.eql (b := decide ((dd.pw) = (((0 : Nat) : Int)))) rfl rfl rfl ?_
      refine R.pickT rfl ?_
      refine R.assign ?_
      refine R.nil ?_
      refine E.ret ?_
      refine ret1 (.bool (decide ((dd.pw) = (((0 : Nat) : Int))))) rfl rfl ⟨_, rfl, ?_⟩
      refine ⟨hE, (by rw [decide_eq_true (show dd.pw = ((0 : Nat) : Int) from hO3)]), .inl ⟨_, hO1, ⟨_, _, _, hB902, hV, hP⟩, hD⟩⟩
    · have hg29q := hg29
      replace hg29 := dF hg29
      exact absurd hg29 (by omega)
  · have hlst := hO2.lst
    have hmx := hO2.ok.max
    refine E.regionP rfl ?_
    refine R.move ?_
    refine R.nilCheck rfl ?_
    refine R.fld fa69_0 rfl ?_
    refine R.loadB t32 hB902 rfl rfl rfl trivial ?_
    refine R.call1 ent39 (openP _ hD hpw hO1) rfl ?_
    rintro v19 w4 ⟨hU4, hDn4, ⟨b901, vl, us, rfl, hJ, hpj⟩⟩
    refine ⟨nofun, ?_⟩
    replace hV := hV.upD hU4 hD (by decide)
    replace hP := hP.upD hU4 hD (by decide)
    replace hB902 := hB902.upD hU4 hD (by decide)
    replace hE := hE.trans hU4 (fun x _ h => .inr h)
    clear hD
    have hD := hDn4
    replace hpj := Nat.le_trans hsz0 hpj
    refine R.move ?_
    refine R.extract rfl rfl ?_
    refine R.extract rfl rfl ?_
    refine R.assign ?_
    refine R.assign ?_
    refine R.nil ?_
    refine E.seq ?_
    refine E.seq ?_
    refine E.forget [(0, .pointer (some ⟨b902, 0, none⟩)), (1, .int .i64 (power)), (5, .pointer (some ⟨b901, 0, none⟩)), (6, .int .i64 ((0 : Nat) : Int))] ⟨rfl, rfl, rfl, rfl, trivial⟩ (fun e => ?_)
    refine E.regionP rfl ?_
    refine R.move ?_
    refine R.eql (b := false) rfl rfl (by decide) ?_
    refine R.nil ?_
    refine E.condF rfl ?_
    refine E.skip ?_
    refine E.seq ?_
    refine E.seq ?_
    refine E.regionP rfl ?_
    refine R.move ?_
    refine R.neq (b := false) rfl rfl (by decide) ?_
    refine R.move ?_
    refine R.gT rfl rfl ?_
    refine R.move ?_
    refine R.gT rfl rfl ?_
    refine R.eqlNil (b := false) Try.underlying66 rfl rfl rfl ?_
    refine R.pickF rfl ?_
    refine R.nil ?_
    refine E.condF rfl ?_
    refine E.skip ?_
    refine E.seq ?_
    refine E.regionP rfl ?_
    refine R.move ?_
    refine R.move ?_
    refine R.nilCheck rfl ?_
    refine R.fld fa69_1 rfl ?_
    refine R.store t66 hB902 rfl rfl (rfl) (by simp) nofun ?_
    intro w5 hU5 hs5 hN5
    replace hD := hD.upT hU5 hB902 (by decide)
    replace hV := hV.upT hU5 hB902 (by decide)
    replace hP := hP.upT hU5 hB902 (by decide)
    replace hJ := hJ.upT hU5 hB902 (by decide)
    replace hE := hE.trans hU5 (fun x _ h => .inl h)
    replace hB902 : Blk _ b902 69 #[.pointer (some ⟨b900, 0, none⟩), .pointer (some ⟨b901, 0, none⟩), vL, .int .i64 ((s.first : Nat) : Int), vp, .bool (s.waits), .int .i64 ((s.frm : Nat) : Int), .int .i64 ((s.cnt : Nat) : Int)] := hN5
    clear hN5
    refine R.nil ?_
    refine E.seq ?_
    refine E.seq ?_
    refine E.forget [(0, .pointer (some ⟨b902, 0, none⟩)), (5, .pointer (some ⟨b901, 0, none⟩))] ⟨rfl, rfl, trivial⟩ (fun e => ?_)
    refine E.regionW (fun c x => x < w5.heap.size ∧ (c = false → True)) []  mixed rfl (by kernel_rfl) ?_
    intro w6 hx6 hh6
    replace hD := hD.ext hx6
    replace hV := hV.ext hx6
    replace hP := hP.ext hx6
    replace hJ := hJ.ext hx6
    replace hB902 := hB902.ext hx6
    replace hE := hE.ext hx6
    have hEs : Ext w6 w6 := Upd.refl _
    have hS0 := hx6.size
    have hSB : ∀ b, b < w6.heap.size → b < w5.heap.size ∧ (true = false → (fun x => True) b) := fun b hb => ⟨by rw [hh6] at hb; exact hb, nofun⟩
    have hSA : ∀ b, b < w6.heap.size → (fun x => True) b → b < w5.heap.size ∧ (false = false → (fun x => True) b) := fun b hb h => ⟨by rw [hh6] at hb; exact hb, fun _ => h⟩
    have hSO : ∀ b, b < w.heap.size → b < w5.heap.size ∧ (false = false → (fun x => True) b) := fun b hb => hSA b (Nat.lt_of_lt_of_le hb hE.size) (trivial)
    have hDs := hD
    have hVs := hV
    have hPs := hP
    have hJs := hJ
    have hB902s := hB902
    refine R.move ?_
    refine R.nilCheck rfl ?_
    refine R.fld fa69_5 rfl ?_
    refine R.loadB t4 hB902 rfl rfl rfl (hSA b902 hB902s.lt (trivial)) ?_
    refine R.move ?_
    have hg57 := Bool.eq_false_or_eq_true (s.waits)
    rcases hg57 with hg57 | hg57
    · have hg57q := hg57
      refine R.gT rfl (congrArg Value.bool hg57q) ?_
      refine R.move ?_
      refine R.gT rfl (congrArg Value.bool hg57q) ?_
      refine R.callE1 ent37 (lastN_ _ hJ hO2.ok.len) rfl (fun _ _ hb => Nat.lt_of_lt_of_le hb.1 (Nat.le_trans hS0 hEs.size)) ?_
      rintro v59 w7 hx7 rfl
      replace hD := hD.ext hx7
      replace hV := hV.ext hx7
      replace hP := hP.ext hx7
      replace hJ := hJ.ext hx7
      replace hB902 := hB902.ext hx7
      replace hE := hE.ext hx7
      replace hEs := hEs.ext hx7
      refine R.gT rfl (congrArg Value.bool hg57q) ?_
      refine R.move ?_
      refine R.gT rfl (congrArg Value.bool hg57q) ?_
      refine R.nilCheck rfl ?_
      refine R.gT rfl (congrArg Value.bool hg57q) ?_
      refine R.fld fa69_3 rfl ?_
      refine R.gT rfl (congrArg Value.bool hg57q) ?_
      refine R.loadB t3 hB902 rfl rfl rfl (hSA b902 hB902s.lt (trivial)) ?_
      refine R.gT rfl (congrArg Value.bool hg57q) ?_
      refine R.move ?_
      refine R.gT rfl (congrArg Value.bool hg57q) ?_
      refine R.nilCheck rfl ?_
      refine R.gT rfl (congrArg Value.bool hg57q) ?_
      refine R.fld fa69_2 rfl ?_
      refine R.gT rfl (congrArg Value.bool hg57q) ?_
      refine R.loadB t67 hB902 rfl rfl rfl (hSA b902 hB902s.lt (trivial)) ?_
      refine R.gT rfl (congrArg Value.bool hg57q) ?_
      refine R.len Try.underlying67 hV.sl.row rfl ?_
      refine R.gT rfl (congrArg Value.bool hg57q) ?_
      refine R.addN (m := s.first) (n := s.live.length) rfl rfl (by omega) ?_
      refine R.gT rfl (congrArg Value.bool hg57q) ?_
      refine R.eql (b := decide (((((lastN jj.live) : Nat) : Int)) = (((s.first + s.live.length : Nat) : Int)))) rfl rfl rfl ?_
      refine R.pickT (congrArg Value.bool hg57q) ?_
      refine R.nil ?_
      refine E.cond (b := decide (((((lastN jj.live) : Nat) : Int)) = (((s.first + s.live.length : Nat) : Int)))) rfl (fun hc71 => ?_) (fun hc71 => ?_)
      · replace hc71 := dT hc71
        exact absurd hc71 (by omega)
      · replace hc71 := dF hc71
        refine E.skip ?_
        refine E.seq ?_
        refine E.forget [(0, .pointer (some ⟨b902, 0, none⟩))] ⟨rfl, trivial⟩ (fun e => ?_)
        refine E.regionP rfl ?_
        refine R.move ?_
        refine R.nilCheck rfl ?_
        refine R.fld fa69_5 rfl ?_
        refine R.store t4 hB902 rfl rfl (rfl) (by simp) nofun ?_
        intro w8 hU8 hs8 hN8
        replace hD := hD.upT hU8 hB902 (by decide)
        replace hV := hV.upT hU8 hB902 (by decide)
        replace hP := hP.upT hU8 hB902 (by decide)
        replace hJ := hJ.upT hU8 hB902 (by decide)
        replace hE := hE.trans hU8 (fun x _ h => .inl h)
        replace hB902 : Blk _ b902 69 #[.pointer (some ⟨b900, 0, none⟩), .pointer (some ⟨b901, 0, none⟩), vL, .int .i64 ((s.first : Nat) : Int), vp, .bool (false), .int .i64 ((s.frm : Nat) : Int), .int .i64 ((s.cnt : Nat) : Int)] := hN8
        clear hN8
        refine R.nil ?_
        refine E.seq ?_
        refine E.regionP rfl ?_
        refine R.move ?_
        refine R.callE1 ent38 (holds_ _ hB902 hJ hV hO2) rfl nofun ?_
        rintro v86 w9 hx9 rfl
        replace hD := hD.ext hx9
        replace hV := hV.ext hx9
        replace hP := hP.ext hx9
        replace hJ := hJ.ext hx9
        replace hB902 := hB902.ext hx9
        replace hE := hE.ext hx9
        refine R.assign ?_
        refine R.nil ?_
        refine E.ret ?_
        refine ret1 (.bool (true)) rfl rfl ⟨_, rfl, ?_⟩
        exact ⟨hE, rfl, .inr (.inl ⟨_, _, _, _, _, hO1, hO2, hJ, hpj, ⟨_, _, _, hB902, hV, hP⟩, hD⟩)⟩
    · have hg57q := hg57
      refine R.gF rfl (congrArg Value.bool hg57q) rfl ?_
      refine R.gF rfl (congrArg Value.bool hg57q) rfl ?_
      refine R.gF rfl (congrArg Value.bool hg57q) rfl ?_
      refine R.gF rfl (congrArg Value.bool hg57q) rfl ?_
      refine R.gF rfl (congrArg Value.bool hg57q) rfl ?_
      refine R.gF rfl (congrArg Value.bool hg57q) rfl ?_
      refine R.gF rfl (congrArg Value.bool hg57q) rfl ?_
      refine R.gF rfl (congrArg Value.bool hg57q) rfl ?_
      refine R.gF rfl (congrArg Value.bool hg57q) rfl ?_
      refine R.gF rfl (congrArg Value.bool hg57q) rfl ?_
      refine R.gF rfl (congrArg Value.bool hg57q) rfl ?_
      refine R.gF rfl (congrArg Value.bool hg57q) rfl ?_
      refine R.gF rfl (congrArg Value.bool hg57q) rfl ?_
      refine R.pickF (congrArg Value.bool hg57q) ?_
      refine R.nil ?_
      refine E.condF rfl ?_
      refine E.skip ?_
      refine E.seq ?_
      refine E.forget [(0, .pointer (some ⟨b902, 0, none⟩))] ⟨rfl, trivial⟩ (fun e => ?_)
      refine E.regionP rfl ?_
      refine R.move ?_
      refine R.nilCheck rfl ?_
      refine R.fld fa69_5 rfl ?_
      refine R.store t4 hB902 rfl rfl (rfl) (by simp) nofun ?_
      intro w10 hU10 hs10 hN10
      replace hD := hD.upT hU10 hB902 (by decide)
      replace hV := hV.upT hU10 hB902 (by decide)
      replace hP := hP.upT hU10 hB902 (by decide)
      replace hJ := hJ.upT hU10 hB902 (by decide)
      replace hE := hE.trans hU10 (fun x _ h => .inl h)
      replace hB902 : Blk _ b902 69 #[.pointer (some ⟨b900, 0, none⟩), .pointer (some ⟨b901, 0, none⟩), vL, .int .i64 ((s.first : Nat) : Int), vp, .bool (false), .int .i64 ((s.frm : Nat) : Int), .int .i64 ((s.cnt : Nat) : Int)] := hN10
      clear hN10
      refine R.nil ?_
      refine E.seq ?_
      refine E.regionP rfl ?_
      refine R.move ?_
      refine R.callE1 ent38 (holds_ _ hB902 hJ hV hO2) rfl nofun ?_
      rintro v86 w11 hx11 rfl
      replace hD := hD.ext hx11
      replace hV := hV.ext hx11
      replace hP := hP.ext hx11
      replace hJ := hJ.ext hx11
      replace hB902 := hB902.ext hx11
      replace hE := hE.ext hx11
      refine R.assign ?_
      refine R.nil ?_
      refine E.ret ?_
      refine ret1 (.bool (true)) rfl rfl ⟨_, rfl, ?_⟩
      exact ⟨hE, rfl, .inr (.inl ⟨_, _, _, _, _, hO1, hO2, hJ, hpj, ⟨_, _, _, hB902, hV, hP⟩, hD⟩)⟩
  · have hlst := hO5.lst
    have hmx := hO5.ok.max
    simp only [List.length_append, List.length_drop, List.length_cons, List.length_nil] at hlst
    refine E.regionP rfl ?_
    refine R.move ?_
    refine R.nilCheck rfl ?_
    refine R.fld fa69_0 rfl ?_
    refine R.loadB t32 hB902 rfl rfl rfl trivial ?_
    refine R.call1 ent39 (openP _ hD hpw hO1) rfl ?_
    rintro v19 w12 ⟨hU12, hDn12, ⟨b901, vl, us, rfl, hJ, hpj⟩⟩
    refine ⟨nofun, ?_⟩
    replace hV := hV.upD hU12 hD (by decide)
    replace hP := hP.upD hU12 hD (by decide)
    replace hB902 := hB902.upD hU12 hD (by decide)
    replace hE := hE.trans hU12 (fun x _ h => .inr h)
    clear hD
    have hD := hDn12
    replace hpj := Nat.le_trans hsz0 hpj
    refine R.move ?_
    refine R.extract rfl rfl ?_
    refine R.extract rfl rfl ?_
    refine R.assign ?_
    refine R.assign ?_
    refine R.nil ?_
    refine E.seq ?_
    refine E.seq ?_
    refine E.forget [(0, .pointer (some ⟨b902, 0, none⟩)), (1, .int .i64 (power)), (5, .pointer (some ⟨b901, 0, none⟩)), (6, .int .i64 ((0 : Nat) : Int))] ⟨rfl, rfl, rfl, rfl, trivial⟩ (fun e => ?_)
    refine E.regionP rfl ?_
    refine R.move ?_
    refine R.eql (b := false) rfl rfl (by decide) ?_
    refine R.nil ?_
    refine E.condF rfl ?_
    refine E.skip ?_
    refine E.seq ?_
    refine E.seq ?_
    refine E.regionP rfl ?_
    refine R.move ?_
    refine R.neq (b := false) rfl rfl (by decide) ?_
    refine R.move ?_
    refine R.gT rfl rfl ?_
    refine R.move ?_
    refine R.gT rfl rfl ?_
    refine R.eqlNil (b := false) Try.underlying66 rfl rfl rfl ?_
    refine R.pickF rfl ?_
    refine R.nil ?_
    refine E.condF rfl ?_
    refine E.skip ?_
    refine E.seq ?_
    refine E.regionP rfl ?_
    refine R.move ?_
    refine R.move ?_
    refine R.nilCheck rfl ?_
    refine R.fld fa69_1 rfl ?_
    refine R.store t66 hB902 rfl rfl (rfl) (by simp) nofun ?_
    intro w13 hU13 hs13 hN13
    replace hD := hD.upT hU13 hB902 (by decide)
    replace hV := hV.upT hU13 hB902 (by decide)
    replace hP := hP.upT hU13 hB902 (by decide)
    replace hJ := hJ.upT hU13 hB902 (by decide)
    replace hE := hE.trans hU13 (fun x _ h => .inl h)
    replace hB902 : Blk _ b902 69 #[.pointer (some ⟨b900, 0, none⟩), .pointer (some ⟨b901, 0, none⟩), vL, .int .i64 ((s.first : Nat) : Int), vp, .bool (s.waits), .int .i64 ((s.frm : Nat) : Int), .int .i64 ((s.cnt : Nat) : Int)] := hN13
    clear hN13
    refine R.nil ?_
    refine E.seq ?_
    refine E.seq ?_
    refine E.forget [(0, .pointer (some ⟨b902, 0, none⟩)), (5, .pointer (some ⟨b901, 0, none⟩))] ⟨rfl, rfl, trivial⟩ (fun e => ?_)
    refine E.regionW (fun c x => x < w13.heap.size ∧ (c = false → True)) []  mixed rfl (by kernel_rfl) ?_
    intro w14 hx14 hh14
    replace hD := hD.ext hx14
    replace hV := hV.ext hx14
    replace hP := hP.ext hx14
    replace hJ := hJ.ext hx14
    replace hB902 := hB902.ext hx14
    replace hE := hE.ext hx14
    have hEs : Ext w14 w14 := Upd.refl _
    have hS0 := hx14.size
    have hSB : ∀ b, b < w14.heap.size → b < w13.heap.size ∧ (true = false → (fun x => True) b) := fun b hb => ⟨by rw [hh14] at hb; exact hb, nofun⟩
    have hSA : ∀ b, b < w14.heap.size → (fun x => True) b → b < w13.heap.size ∧ (false = false → (fun x => True) b) := fun b hb h => ⟨by rw [hh14] at hb; exact hb, fun _ => h⟩
    have hSO : ∀ b, b < w.heap.size → b < w13.heap.size ∧ (false = false → (fun x => True) b) := fun b hb => hSA b (Nat.lt_of_lt_of_le hb hE.size) (trivial)
    have hDs := hD
    have hVs := hV
    have hPs := hP
    have hJs := hJ
    have hB902s := hB902
    refine R.move ?_
    refine R.nilCheck rfl ?_
    refine R.fld fa69_5 rfl ?_
    refine R.loadB t4 hB902 rfl rfl rfl (hSA b902 hB902s.lt (trivial)) ?_
    refine R.move ?_
    have hg57 := Bool.eq_false_or_eq_true (s.waits)
    rcases hg57 with hg57 | hg57
    · have hg57q := hg57
      refine R.gT rfl (congrArg Value.bool hg57q) ?_
      refine R.move ?_
      refine R.gT rfl (congrArg Value.bool hg57q) ?_
      refine R.callE1 ent37 (lastN_ _ hJ hO5.ok.len) rfl (fun _ _ hb => Nat.lt_of_lt_of_le hb.1 (Nat.le_trans hS0 hEs.size)) ?_
      rintro v59 w15 hx15 rfl
      replace hD := hD.ext hx15
      replace hV := hV.ext hx15
      replace hP := hP.ext hx15
      replace hJ := hJ.ext hx15
      replace hB902 := hB902.ext hx15
      replace hE := hE.ext hx15
      replace hEs := hEs.ext hx15
      refine R.gT rfl (congrArg Value.bool hg57q) ?_
      refine R.move ?_
      refine R.gT rfl (congrArg Value.bool hg57q) ?_
      refine R.nilCheck rfl ?_
      refine R.gT rfl (congrArg Value.bool hg57q) ?_
      refine R.fld fa69_3 rfl ?_
      refine R.gT rfl (congrArg Value.bool hg57q) ?_
      refine R.loadB t3 hB902 rfl rfl rfl (hSA b902 hB902s.lt (trivial)) ?_
      refine R.gT rfl (congrArg Value.bool hg57q) ?_
      refine R.move ?_
      refine R.gT rfl (congrArg Value.bool hg57q) ?_
      refine R.nilCheck rfl ?_
      refine R.gT rfl (congrArg Value.bool hg57q) ?_
      refine R.fld fa69_2 rfl ?_
      refine R.gT rfl (congrArg Value.bool hg57q) ?_
      refine R.loadB t67 hB902 rfl rfl rfl (hSA b902 hB902s.lt (trivial)) ?_
      refine R.gT rfl (congrArg Value.bool hg57q) ?_
      refine R.len Try.underlying67 hV.sl.row rfl ?_
      refine R.gT rfl (congrArg Value.bool hg57q) ?_
      refine R.addN (m := s.first) (n := s.live.length) rfl rfl (by omega) ?_
      refine R.gT rfl (congrArg Value.bool hg57q) ?_
      refine R.eql (b := decide (((((lastN jj.live) : Nat) : Int)) = (((s.first + s.live.length : Nat) : Int)))) rfl rfl rfl ?_
      refine R.pickT (congrArg Value.bool hg57q) ?_
      refine R.nil ?_
      refine E.cond (b := decide (((((lastN jj.live) : Nat) : Int)) = (((s.first + s.live.length : Nat) : Int)))) rfl (fun hc71 => ?_) (fun hc71 => ?_)
      · replace hc71 := dT hc71
        refine E.forget [(0, .pointer (some ⟨b902, 0, none⟩))] ⟨rfl, trivial⟩ (fun e => ?_)
        refine E.regionW (fun c x => x < w15.heap.size ∧ (c = false → x ≠ b902)) [76, 80]  mixed rfl (by kernel_rfl) ?_
        intro w16 hx16 hh16
        replace hD := hD.ext hx16
        replace hV := hV.ext hx16
        replace hP := hP.ext hx16
        replace hJ := hJ.ext hx16
        replace hB902 := hB902.ext hx16
        replace hE := hE.ext hx16
        have hEs : Ext w16 w16 := Upd.refl _
        have hS0 := hx16.size
        have hSB : ∀ b, b < w16.heap.size → b < w15.heap.size ∧ (true = false → (fun x => x ≠ b902) b) := fun b hb => ⟨by rw [hh16] at hb; exact hb, nofun⟩
        have hSA : ∀ b, b < w16.heap.size → (fun x => x ≠ b902) b → b < w15.heap.size ∧ (false = false → (fun x => x ≠ b902) b) := fun b hb h => ⟨by rw [hh16] at hb; exact hb, fun _ => h⟩
        have hDs := hD
        have hVs := hV
        have hPs := hP
        have hJs := hJ
        have hB902s := hB902
        refine R.move ?_
        refine R.move ?_
        refine R.nilCheck rfl ?_
        refine R.fld fa69_4 rfl ?_
        refine R.loadB t55 hB902 rfl rfl rfl (hSB b902 hB902s.lt) ?_
        refine R.move ?_
        refine R.nilCheck rfl ?_
        refine R.fld fa69_6 rfl ?_
        refine R.loadB t3 hB902 rfl rfl rfl (hSB b902 hB902s.lt) ?_
        refine R.call3 ent50 (drop_ _ hB902 hV hP (by omega) (by omega) (by omega) (by omega)) rfl rfl rfl ?_
        rintro v81 w17 ⟨hU17, v81v, us81, hN17, hV2⟩
        refine ⟨fun _ => hU17.agree (fun x hx => ⟨Nat.lt_of_lt_of_le hx.1 (Nat.le_trans hS0 hEs.size), hx.2 rfl⟩), ?_⟩
        replace hD := hD.upT hU17 hB902 (by decide)
        replace hV := hV.upT hU17 hB902 (by decide)
        replace hP := hP.upT hU17 hB902 (by decide)
        replace hJ := hJ.upT hU17 hB902 (by decide)
        replace hE := hE.trans hU17 (fun x _ h => .inl h)
        replace hB902 := hN17
        replace hV := hV2
        refine R.nil ?_
        refine E.seq ?_
        refine E.regionP rfl ?_
        refine R.move ?_
        refine R.nilCheck rfl ?_
        refine R.fld fa69_5 rfl ?_
        refine R.store t4 hB902 rfl rfl (rfl) (by simp) nofun ?_
        intro w18 hU18 hs18 hN18
        replace hD := hD.upT hU18 hB902 (by decide)
        replace hV := hV.upT hU18 hB902 (by decide)
        replace hP := hP.upT hU18 hB902 (by decide)
        replace hJ := hJ.upT hU18 hB902 (by decide)
        replace hE := hE.trans hU18 (fun x _ h => .inl h)
        replace hB902 : Blk _ b902 69 #[.pointer (some ⟨b900, 0, none⟩), .pointer (some ⟨b901, 0, none⟩), v81v, .int .i64 ((s.frm : Nat) : Int), vp, .bool (false), .int .i64 ((s.frm : Nat) : Int), .int .i64 ((s.cnt : Nat) : Int)] := hN18
        clear hN18
        refine R.nil ?_
        refine E.seq ?_
        refine E.forget [(0, .pointer (some ⟨b902, 0, none⟩))] ⟨rfl, trivial⟩ (fun e => ?_)
        refine E.regionP rfl ?_
        refine R.move ?_
        refine R.callE1 ent38 (holds_ _ hB902 hJ hV hO5) rfl nofun ?_
        rintro v86 w19 hx19 rfl
        replace hD := hD.ext hx19
        replace hV := hV.ext hx19
        replace hP := hP.ext hx19
        replace hJ := hJ.ext hx19
        replace hB902 := hB902.ext hx19
        replace hE := hE.ext hx19
        refine R.assign ?_
        refine R.nil ?_
        refine E.ret ?_
        refine ret1 (.bool (true)) rfl rfl ⟨_, rfl, ?_⟩
        exact ⟨hE, rfl, .inr (.inr ⟨_, _, _, _, _, hO1, hO2, hO5, hJ, hpj, ⟨_, _, _, hB902, hV, hP⟩, hD⟩)⟩
      · replace hc71 := dF hc71
        exact absurd hc71 (by omega)
    · have hg57q := hg57
      rw [hO2] at hg57
      exact absurd hg57 (by simp)
end Go.Proofs.Ytlplogplicgfiaa
