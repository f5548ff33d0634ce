import Derived.Test.YtlplogplicgfiaaZ10KH
namespace Go.Proofs.Ytlplogplicgfiaa
open Go Go.RowKit
def Dk.setPw (d : Dk) (p : Int) : Dk := { d with pw := p }
theorem DM.setPw {w w' : World} {p : Nat} {vb vd : Value} {d : Dk} {q : Int} (h : DM w p vb vd d) (u : Upd (one p) w w') (hN : Blk w' p 25 #[vb, vd, .int .i64 q, .bool d.tr]) : DM w' p vb vd (d.setPw q) :=
  ⟨hN, h.bls.upT u h.blk (by decide), h.bds.upT u h.blk (by decide), h.ok⟩
structure Sp where
  d : Dk
  live : List (List Nat)
  first : Nat
  pend : List Nat
  waits : Bool
  frm : Nat
  cnt : Nat
structure ShM (w : World) (p pd : Nat) (vb vd jp : Value) (s : Sp) : Prop where
  ex : ∃ vL uL vp, Blk w p 69 #[.pointer (some ⟨pd, 0, none⟩), jp, vL, .int .i64 ((s.first : Nat) : Int), vp, .bool s.waits, .int .i64 ((s.frm : Nat) : Int), .int .i64 ((s.cnt : Nat) : Int)] ∧ LvM w vL uL s.live ∧ SU8s w vp s.pend
  d : DM w pd vb vd s.d
def SB (p pj pd : Nat) (vb vd : Value) (x : Nat) : Prop := x = p ∨ AB pj pd vb vd x
def AppC (d : Dk) (j : Jn) (l : List (List Nat)) (f g : Nat) (power : Int) (rec : List Nat) : Prop :=
  (appendL d j rec ((g : Nat) : Int) = (d, j, 0, 4) ∧ roomI d.n j.live < (rec.length : Int)) ∨
  (∃ d' j', appendL d j rec ((g : Nat) : Int) = (d', j', f + l.length, 0) ∧ (rec.length : Int) ≤ roomI d.n j.live ∧ HoldP j' (l.drop (g - f) ++ [rec]) g) ∨
  (∃ d' j', appendL d j rec ((g : Nat) : Int) = (d', j', 0, 420) ∧ (rec.length : Int) ≤ roomI d.n j.live ∧ HoldP j' l f ∧ 0 ≤ power ∧ j'.down = true ∧ d'.pw ≤ 9223372036854775807 ∧ j'.live = j.live)
def SRes (w' : World) (p pj pd : Nat) (vb vd : Value) (s : Sp) (power : Int) (j : Jn) (g : Nat) (rec : List Nat) : Prop :=
  (appendL (s.d.setPw power) j rec ((g : Nat) : Int) = (s.d.setPw power, j, 0, 4) ∧ (∃ vl us, JM w' pj pd vl us j) ∧ ShM w' p pd vb vd (.pointer (some ⟨pj, 0, none⟩)) { s with d := s.d.setPw power, cnt := s.cnt + 1 }) ∨
  (∃ d' j', appendL (s.d.setPw power) j rec ((g : Nat) : Int) = (d', j', s.first + s.live.length, 0) ∧ (∃ vl us, JM w' pj pd vl us j') ∧ ShM w' p pd vb vd (.pointer (some ⟨pj, 0, none⟩)) { s with d := d', live := s.live.drop (g - s.first) ++ [rec], first := g, cnt := s.cnt + 1 }) ∨
  (∃ d' j', appendL (s.d.setPw power) j rec ((g : Nat) : Int) = (d', j', 0, 420) ∧ ShM w' p pd vb vd (.pointer none) { s with d := d', pend := rec, waits := true, frm := g, cnt := s.cnt + 1 })
theorem appendL_down {d : Dk} {j : Jn} {rec : List Nat} {f : Int} (h : j.down = true) : appendL d j rec f = (d, j, 0, 420) := by unfold appendL; rw [if_pos h]
theorem sappend_ (w : World) {b902 b901 b900 m p : Nat} {vb vd vl : Value} {us : List Value} {s : Sp} {j : Jn} {power : Int} (hS : ShM w b902 b900 vb vd (.pointer (some ⟨b901, 0, none⟩)) s) (hJ : JM w b901 b900 vl us j) (hH : HoldP j s.live s.first) (hm : m ≤ 100000) (_hp : p ≤ 1000000) (hcnt : s.cnt ≤ 1000000) (hpw : power ≤ 9223372036854775807) (hat : ∀ i, i < j.live.length → (j.live.getD i Rc0).at_ ≤ 1000000)
    (hA : ∀ rec, rec.length = m → (∀ x ∈ rec, x < 256) → AppC (s.d.setPw power) j s.live s.first (s.first + p % (s.live.length + 1)) power rec) :
    Calls Try.prog 30 #[.pointer (some ⟨b902, 0, none⟩), .int .i64 (m : Nat), .int .i64 (p : Nat), .int .i64 power] w (Ret fun r w' => Upd (SB b902 b901 b900 vb vd) w w' ∧ r = .bool true ∧ ∃ rec, rec.length = m ∧ (∀ x ∈ rec, x < 256) ∧ SRes w' b902 b901 b900 vb vd s power j (s.first + p % (s.live.length + 1)) rec) := by
  obtain ⟨⟨vL, uL, vp, hB902, hV, hP⟩, hD⟩ := hS
  have hlst := hH.lst
  have hfst := hH.fst
  have hlen := hH.len
  have hmx := hH.ok.max
  have hln := hH.ok.len
  refine calls_E (args := [.pointer (some ⟨b902, 0, none⟩), .int .i64 ((m : Nat) : Int), .int .i64 ((p : Nat) : Int), .int .i64 (power)]) 141 Try.func30 rfl rfl (by simp) ?_
  have hE : Upd (SB b902 b901 b900 vb vd) w w := Upd.refl w
  refine E.seq ?_
  refine E.regionP rfl ?_
  refine R.assign ?_
  refine R.nil ?_
  refine E.seq ?_
  refine E.regionP rfl ?_
  refine R.move ?_
  refine R.move ?_
  refine R.call2 ent49 (record_ _ hB902 hm hcnt) rfl rfl ?_
  rintro v16 w1 ⟨hU1, hN1, xs16, hl16, hb16, hS16, hF16⟩
  refine ⟨nofun, ?_⟩
  replace hF16 := hF16.mono hE.size
  replace hD := hD.upT hU1 hB902 (by decide)
  replace hJ := hJ.upT hU1 hB902 (by decide)
  replace hV := hV.upT hU1 hB902 (by decide)
  replace hP := hP.upT hU1 hB902 (by decide)
  replace hE := hE.trans hU1 (fun x _ h => .inl h)
  replace hB902 := hN1
  refine R.assign ?_
  refine R.nil ?_
  refine E.seq ?_
  have hmod := Nat.mod_lt p (show 0 < s.live.length + 1 by omega)
  refine E.regionW allS [] mixed rfl (by kernel_rfl) ?_
  intro w2 hx2 hh2
  replace hD := hD.ext hx2
  replace hJ := hJ.ext hx2
  replace hV := hV.ext hx2
  replace hP := hP.ext hx2
  replace hS16 := hS16.ext hx2
  replace hB902 := hB902.ext hx2
  replace hE := hE.ext hx2
  refine R.move ?_
  refine R.nilCheck rfl ?_
  refine R.fld fa69_3 rfl ?_
  refine R.loadB t3 hB902 rfl rfl rfl trivial ?_
  refine R.move ?_
  refine R.move ?_
  refine R.nilCheck rfl ?_
  refine R.fld fa69_2 rfl ?_
  refine R.loadB t67 hB902 rfl rfl rfl trivial ?_
  refine R.len Try.underlying67 hV.sl.row rfl ?_
  refine R.addN (m := s.live.length) (n := 1) rfl rfl (by omega) ?_
  refine R.remN (m := p) (n := (s.live.length + 1)) rfl rfl (by omega) ?_
  refine R.addN (m := s.first) (n := (p % (s.live.length + 1))) rfl rfl (by omega) ?_
  refine R.assign ?_
  refine R.nil ?_
  refine E.seq ?_
  refine E.forget [(0, .pointer (some ⟨b902, 0, none⟩)), (1, .int .i64 ((m : Nat) : Int)), (3, .int .i64 (power)), (9, v16), (10, .int .i64 ((s.first + (p % (s.live.length + 1)) : Nat) : Int))] ⟨rfl, rfl, rfl, rfl, rfl, trivial⟩ (fun e => ?_)
  refine E.regionP rfl ?_
  refine R.move ?_
  refine R.nilCheck rfl ?_
  refine R.fld fa69_1 rfl ?_
  refine R.loadB t66 hB902 rfl rfl rfl trivial ?_
  refine R.callE1 ent35 (room_ _ hD hJ hH.ok) rfl nofun ?_
  rintro v34 w3 hx3 rfl
  replace hD := hD.ext hx3
  replace hJ := hJ.ext hx3
  replace hV := hV.ext hx3
  replace hP := hP.ext hx3
  replace hS16 := hS16.ext hx3
  replace hB902 := hB902.ext hx3
  replace hE := hE.ext hx3
  refine R.assign ?_
  refine R.nil ?_
  refine E.seq ?_
  refine E.regionP rfl ?_
  refine R.move ?_
  refine R.nilCheck rfl ?_
  refine R.fld fa69_0 rfl ?_
  refine R.loadB t32 hB902 rfl rfl rfl trivial ?_
  refine R.move ?_
  refine R.nilCheck rfl ?_
  refine R.fld fa25_2 rfl ?_
  refine R.store t3 hD.blk rfl rfl rfl (by simp) nofun ?_
  intro w4 hU4 hs4 hN4
  replace hJ := hJ.upT hU4 hD.blk (by decide)
  replace hV := hV.upT hU4 hD.blk (by decide)
  replace hP := hP.upT hU4 hD.blk (by decide)
  replace hS16 := hS16.upT hU4 hD.blk (by decide)
  replace hB902 := hB902.upT hU4 hD.blk (by decide)
  replace hE := hE.trans hU4 (fun x _ h => .inr (.inr (.inl h)))
  replace hD : DM _ b900 vb vd (s.d.setPw power) := hD.setPw hU4 hN4
  refine R.nil ?_
  refine E.seq ?_
  rcases hA xs16 hl16 hb16 with ⟨hA1, hA2⟩ | ⟨dd, jj, hA1, hA2, hA3⟩ | ⟨dd, jj, hA1, hA2, hA3, hA4, hA5, hA6, hA7⟩
  · replace hA2 : roomI s.d.n j.live < (xs16.length : Int) := hA2
    refine E.forget [(0, .pointer (some ⟨b902, 0, none⟩)), (1, .int .i64 ((m : Nat) : Int)), (3, .int .i64 (power)), (9, v16), (10, .int .i64 ((s.first + (p % (s.live.length + 1)) : Nat) : Int)), (11, .int .i64 ((roomI s.d.n j.live)))] ⟨rfl, rfl, rfl, rfl, rfl, rfl, trivial⟩ (fun e => ?_)
    refine E.regionP rfl ?_
    refine R.move ?_
    refine R.nilCheck rfl ?_
    refine R.fld fa69_1 rfl ?_
    refine R.loadB t66 hB902 rfl rfl rfl trivial ?_
    refine R.move ?_
    refine R.move ?_
    refine R.call3 ent36 (appendP _ hD hJ (RU8.of hS16) hb16 hH.ok hat (by omega) hpw (by omega) hA1) rfl rfl rfl ?_
    rintro v49 w5 ⟨hU5, hDn5, vl2, us2, hJn49, rfl⟩
    refine ⟨nofun, ?_⟩
    replace hV := hV.upA hU5 hD hJ (by decide)
    replace hP := hP.upA hU5 hD hJ (by decide)
    replace hS16 := hS16.upA hU5 hD hJ (by decide)
    replace hB902 := hB902.upA hU5 hD hJ (by decide)
    replace hE := hE.trans hU5 (fun x _ h => .inr h)
    clear hD hJ
    have hD := hDn5
    have hJ := hJn49
    refine R.move ?_
    refine R.extract rfl rfl ?_
    refine R.extract rfl rfl ?_
    refine R.assign ?_
    refine R.assign ?_
    refine R.nil ?_
    refine E.seq ?_
    refine E.seq ?_
    refine E.regionP rfl ?_
    refine R.move ?_
    refine R.nil ?_
    refine E.block ?_
    refine E.seq ?_
    refine E.forget [(0, .pointer (some ⟨b902, 0, none⟩)), (1, .int .i64 ((m : Nat) : Int)), (3, .int .i64 (power)), (9, v16), (10, .int .i64 ((s.first + (p % (s.live.length + 1)) : Nat) : Int)), (11, .int .i64 ((roomI s.d.n j.live))), (12, .int .i64 ((0 : Nat) : Int)), (52, .int .i64 ((4 : Nat) : Int))] ⟨rfl, rfl, rfl, rfl, rfl, rfl, rfl, rfl, trivial⟩ (fun e => ?_)
    refine E.regionP rfl ?_
    refine R.eql (b := false) rfl rfl (by decide) ?_
    refine R.assign ?_
    refine R.nil ?_
    refine E.condF rfl ?_
    refine E.seq ?_
    refine E.regionP rfl ?_
    refine R.eql (b := true) rfl rfl (by decide) ?_
    refine R.assign ?_
    refine R.nil ?_
    refine E.condT rfl ?_
    refine E.seq ?_
    refine E.regionP rfl ?_
    refine R.move ?_
    refine R.eql (b := true) rfl rfl (by decide) ?_
    refine R.move ?_
    refine R.gT rfl rfl ?_
    refine R.move ?_
    refine R.gT rfl rfl ?_
    refine R.move ?_
    refine R.gT rfl rfl ?_
    refine R.gtr (b := decide (((roomI s.d.n j.live)) < (((m : Nat) : Int)))) rfl rfl rfl ?_
    refine R.pickT rfl ?_
    refine R.move ?_
    have hg87 := Bool.eq_false_or_eq_true (decide (((roomI s.d.n j.live)) < (((m : Nat) : Int))))
    rcases hg87 with hg87 | hg87
    · have hg87q := hg87
      replace hg87 := dT hg87
      refine R.gT rfl (congrArg Value.bool hg87q) ?_
      refine R.move ?_
      refine R.gT rfl (congrArg Value.bool hg87q) ?_
      refine R.callE1 ent38 (holds_ _ hB902 hJ hV hH) rfl nofun ?_
      rintro v89 w6 hx6 rfl
      replace hD := hD.ext hx6
      replace hJ := hJ.ext hx6
      replace hV := hV.ext hx6
      replace hP := hP.ext hx6
      replace hS16 := hS16.ext hx6
      replace hB902 := hB902.ext hx6
      replace hE := hE.ext hx6
      refine R.pickT (congrArg Value.bool hg87q) ?_
      refine R.assign ?_
      refine R.nil ?_
      refine E.ret ?_
      refine ret1 (.bool (true)) rfl rfl ⟨_, rfl, ?_⟩
      refine ⟨hE, rfl, xs16, hl16, hb16, .inl ⟨hA1, ⟨_, _, hJ⟩, ⟨_, _, _, hB902, hV, hP⟩, hD⟩⟩
    · have hg87q := hg87
      replace hg87 := dF hg87
      exact absurd hg87 (by omega)
  · replace hA2 : (xs16.length : Int) ≤ roomI s.d.n j.live := hA2
    refine E.forget [(0, .pointer (some ⟨b902, 0, none⟩)), (1, .int .i64 ((m : Nat) : Int)), (3, .int .i64 (power)), (9, v16), (10, .int .i64 ((s.first + (p % (s.live.length + 1)) : Nat) : Int)), (11, .int .i64 ((roomI s.d.n j.live)))] ⟨rfl, rfl, rfl, rfl, rfl, rfl, trivial⟩ (fun e => ?_)
    refine E.regionP rfl ?_
    refine R.move ?_
    refine R.nilCheck rfl ?_
    refine R.fld fa69_1 rfl ?_
    refine R.loadB t66 hB902 rfl rfl rfl trivial ?_
    refine R.move ?_
    refine R.move ?_
    refine R.call3 ent36 (appendP _ hD hJ (RU8.of hS16) hb16 hH.ok hat (by omega) hpw (by omega) hA1) rfl rfl rfl ?_
    rintro v49 w7 ⟨hU7, hDn7, vl2, us2, hJn49, rfl⟩
    refine ⟨nofun, ?_⟩
    replace hV := hV.upA hU7 hD hJ (by decide)
    replace hP := hP.upA hU7 hD hJ (by decide)
    replace hS16 := hS16.upA hU7 hD hJ (by decide)
    replace hB902 := hB902.upA hU7 hD hJ (by decide)
    replace hE := hE.trans hU7 (fun x _ h => .inr h)
    clear hD hJ
    have hD := hDn7
    have hJ := hJn49
    refine R.move ?_
    refine R.extract rfl rfl ?_
    refine R.extract rfl rfl ?_
    refine R.assign ?_
    refine R.assign ?_
    refine R.nil ?_
    refine E.seq ?_
    refine E.seq ?_
    refine E.regionP rfl ?_
    refine R.move ?_
    refine R.nil ?_
    refine E.block ?_
    refine E.seq ?_
    refine E.forget [(0, .pointer (some ⟨b902, 0, none⟩)), (1, .int .i64 ((m : Nat) : Int)), (3, .int .i64 (power)), (9, v16), (10, .int .i64 ((s.first + (p % (s.live.length + 1)) : Nat) : Int)), (11, .int .i64 ((roomI s.d.n j.live))), (12, .int .i64 ((s.first + s.live.length : Nat) : Int)), (52, .int .i64 ((0 : Nat) : Int))] ⟨rfl, rfl, rfl, rfl, rfl, rfl, rfl, rfl, trivial⟩ (fun e => ?_)
    refine E.regionP rfl ?_
    refine R.eql (b := true) rfl rfl (by decide) ?_
    refine R.assign ?_
    refine R.nil ?_
    refine E.condT rfl ?_
    refine E.seq ?_
    refine E.seq ?_
    refine E.regionW allS [] mixed rfl (by kernel_rfl) ?_
    intro w8 hx8 hh8
    replace hD := hD.ext hx8
    replace hJ := hJ.ext hx8
    replace hV := hV.ext hx8
    replace hP := hP.ext hx8
    replace hS16 := hS16.ext hx8
    replace hB902 := hB902.ext hx8
    replace hE := hE.ext hx8
    refine R.move ?_
    refine R.move ?_
    refine R.nilCheck rfl ?_
    refine R.fld fa69_3 rfl ?_
    refine R.loadB t3 hB902 rfl rfl rfl trivial ?_
    refine R.move ?_
    refine R.nilCheck rfl ?_
    refine R.fld fa69_2 rfl ?_
    refine R.loadB t67 hB902 rfl rfl rfl trivial ?_
    refine R.len Try.underlying67 hV.sl.row rfl ?_
    refine R.addN (m := s.first) (n := s.live.length) rfl rfl (by omega) ?_
    refine R.neq (b := !decide ((((s.first + s.live.length : Nat) : Int)) = (((s.first + s.live.length : Nat) : Int)))) rfl rfl rfl ?_
    refine R.move ?_
    have hg67 := Bool.eq_false_or_eq_true (!decide ((((s.first + s.live.length : Nat) : Int)) = (((s.first + s.live.length : Nat) : Int))))
    rcases hg67 with hg67 | hg67
    · have hg67q := hg67
      replace hg67 := nT hg67
      exact absurd hg67 (by omega)
    · have hg67q := hg67
      replace hg67 := nF hg67
      refine R.gT rfl (congrArg Value.bool hg67q) ?_
      refine R.move ?_
      refine R.gT rfl (congrArg Value.bool hg67q) ?_
      refine R.move ?_
      refine R.gT rfl (congrArg Value.bool hg67q) ?_
      refine R.gtr (b := decide (((roomI s.d.n j.live)) < (((m : Nat) : Int)))) rfl rfl rfl ?_
      refine R.pickF (congrArg Value.bool hg67q) ?_
      refine R.nil ?_
      refine E.cond (b := decide (((roomI s.d.n j.live)) < (((m : Nat) : Int)))) rfl (fun hc71 => ?_) (fun hc71 => ?_)
      · replace hc71 := dT hc71
        exact absurd hc71 (by omega)
      · replace hc71 := dF hc71
        refine E.skip ?_
        refine E.seq ?_
        refine E.forget [(0, .pointer (some ⟨b902, 0, none⟩)), (9, v16), (10, .int .i64 ((s.first + (p % (s.live.length + 1)) : Nat) : Int))] ⟨rfl, rfl, rfl, trivial⟩ (fun e => ?_)
        refine E.regionP rfl ?_
        refine R.move ?_
        refine R.move ?_
        refine R.move ?_
        refine R.call3 ent50 (drop_ _ hB902 hV hS16 (by omega) (by omega) (by omega) (by omega)) rfl rfl rfl ?_
        rintro v75 w9 ⟨hU9, v75v, us75, hN9, hV2⟩
        refine ⟨nofun, ?_⟩
        replace hD := hD.upT hU9 hB902 (by decide)
        replace hJ := hJ.upT hU9 hB902 (by decide)
        replace hV := hV.upT hU9 hB902 (by decide)
        replace hP := hP.upT hU9 hB902 (by decide)
        replace hS16 := hS16.upT hU9 hB902 (by decide)
        replace hE := hE.trans hU9 (fun x _ h => .inl h)
        replace hB902 := hN9
        replace hV := hV2
        refine R.nil ?_
        refine E.seq ?_
        refine E.regionP rfl ?_
        refine R.move ?_
        refine R.callE1 ent38 (holds_ _ hB902 hJ hV hA3) rfl nofun ?_
        rintro v77 w10 hx10 rfl
        replace hD := hD.ext hx10
        replace hJ := hJ.ext hx10
        replace hV := hV.ext hx10
        replace hP := hP.ext hx10
        replace hS16 := hS16.ext hx10
        replace hB902 := hB902.ext hx10
        replace hE := hE.ext hx10
        refine R.assign ?_
        refine R.nil ?_
        refine E.ret ?_
        refine ret1 (.bool (true)) rfl rfl ⟨_, rfl, ?_⟩
        refine ⟨hE, rfl, xs16, hl16, hb16, .inr (.inl ⟨_, _, hA1, ⟨_, _, hJ⟩, ⟨_, _, _, hB902, hV, hP⟩, hD⟩)⟩
  · replace hA2 : (xs16.length : Int) ≤ roomI s.d.n j.live := hA2
    refine E.forget [(0, .pointer (some ⟨b902, 0, none⟩)), (1, .int .i64 ((m : Nat) : Int)), (3, .int .i64 (power)), (9, v16), (10, .int .i64 ((s.first + (p % (s.live.length + 1)) : Nat) : Int)), (11, .int .i64 ((roomI s.d.n j.live)))] ⟨rfl, rfl, rfl, rfl, rfl, rfl, trivial⟩ (fun e => ?_)
    refine E.regionP rfl ?_
    refine R.move ?_
    refine R.nilCheck rfl ?_
    refine R.fld fa69_1 rfl ?_
    refine R.loadB t66 hB902 rfl rfl rfl trivial ?_
    refine R.move ?_
    refine R.move ?_
    refine R.call3 ent36 (appendP _ hD hJ (RU8.of hS16) hb16 hH.ok hat (by omega) hpw (by omega) hA1) rfl rfl rfl ?_
    rintro v49 w11 ⟨hU11, hDn11, vl2, us2, hJn49, rfl⟩
    refine ⟨nofun, ?_⟩
    replace hV := hV.upA hU11 hD hJ (by decide)
    replace hP := hP.upA hU11 hD hJ (by decide)
    replace hS16 := hS16.upA hU11 hD hJ (by decide)
    replace hB902 := hB902.upA hU11 hD hJ (by decide)
    replace hE := hE.trans hU11 (fun x _ h => .inr h)
    clear hD hJ
    have hD := hDn11
    have hJ := hJn49
    refine R.move ?_
    refine R.extract rfl rfl ?_
    refine R.extract rfl rfl ?_
    refine R.assign ?_
    refine R.assign ?_
    refine R.nil ?_
    refine E.seq ?_
    refine E.seq ?_
    refine E.regionP rfl ?_
    refine R.move ?_
    refine R.nil ?_
    refine E.block ?_
    refine E.seq ?_
    refine E.forget [(0, .pointer (some ⟨b902, 0, none⟩)), (1, .int .i64 ((m : Nat) : Int)), (3, .int .i64 (power)), (9, v16), (10, .int .i64 ((s.first + (p % (s.live.length + 1)) : Nat) : Int)), (11, .int .i64 ((roomI s.d.n j.live))), (12, .int .i64 ((0 : Nat) : Int)), (52, .int .i64 ((420 : Nat) : Int))] ⟨rfl, rfl, rfl, rfl, rfl, rfl, rfl, rfl, trivial⟩ (fun e => ?_)
    refine E.regionP rfl ?_
    refine R.eql (b := false) rfl rfl (by decide) ?_
    refine R.assign ?_
    refine R.nil ?_
    refine E.condF rfl ?_
    refine E.seq ?_
    refine E.regionP rfl ?_
    refine R.eql (b := false) rfl rfl (by decide) ?_
    refine R.assign ?_
    refine R.nil ?_
    refine E.condF rfl ?_
    refine E.seq ?_
    refine E.regionP rfl ?_
    refine R.eql (b := true) rfl rfl (by decide) ?_
    refine R.assign ?_
    refine R.nil ?_
    refine E.condT rfl ?_
    refine E.seq ?_
    refine E.seq ?_
    refine E.regionP rfl ?_
    refine R.move ?_
    refine R.neq (b := false) rfl rfl (by decide) ?_
    refine R.move ?_
    refine R.gT rfl rfl ?_
    refine R.move ?_
    refine R.gT rfl rfl ?_
    refine R.lss (b := decide ((power) < (((0 : Nat) : Int)))) rfl rfl rfl ?_
    refine R.pickF rfl ?_
    refine R.move ?_
    have hg99 := Bool.eq_false_or_eq_true (decide ((power) < (((0 : Nat) : Int))))
    rcases hg99 with hg99 | hg99
    · have hg99q := hg99
      replace hg99 := dT hg99
      exact absurd hg99 (by omega)
    · have hg99q := hg99
      replace hg99 := dF hg99
      refine R.gT rfl (congrArg Value.bool hg99q) ?_
      refine R.move ?_
      refine R.gT rfl (congrArg Value.bool hg99q) ?_
      refine R.move ?_
      refine R.gT rfl (congrArg Value.bool hg99q) ?_
      refine R.gtr (b := decide (((roomI s.d.n j.live)) < (((m : Nat) : Int)))) rfl rfl rfl ?_
      refine R.pickF (congrArg Value.bool hg99q) ?_
      refine R.move ?_
      have hg104 := Bool.eq_false_or_eq_true (decide (((roomI s.d.n j.live)) < (((m : Nat) : Int))))
      rcases hg104 with hg104 | hg104
      · have hg104q := hg104
        replace hg104 := dT hg104
        exact absurd hg104 (by omega)
      · have hg104q := hg104
        replace hg104 := dF hg104
        refine R.gT rfl (congrArg Value.bool hg104q) ?_
        refine R.move ?_
        refine R.gT rfl (congrArg Value.bool hg104q) ?_
        refine R.callE1 ent38 (holds_ _ hB902 hJ hV hA3) rfl nofun ?_
        rintro v106 w12 hx12 rfl
        replace hD := hD.ext hx12
        replace hJ := hJ.ext hx12
        replace hV := hV.ext hx12
        replace hP := hP.ext hx12
        replace hS16 := hS16.ext hx12
        replace hB902 := hB902.ext hx12
        replace hE := hE.ext hx12
        refine R.gT rfl (congrArg Value.bool hg104q) ?_
        refine R.not rfl ?_
        refine R.pickF (congrArg Value.bool hg104q) ?_
        refine R.nil ?_
        refine E.condF rfl ?_
        refine E.skip ?_
        refine E.seq ?_
        refine E.seq ?_
        refine E.forget [(0, .pointer (some ⟨b902, 0, none⟩)), (9, v16), (10, .int .i64 ((s.first + (p % (s.live.length + 1)) : Nat) : Int))] ⟨rfl, rfl, rfl, trivial⟩ (fun e => ?_)
        refine E.regionW (fun c x => x < w12.heap.size ∧ (c = false → ¬ AB b901 b900 vb vd x)) []  mixed rfl (by kernel_rfl) ?_
        intro w13 hx13 hh13
        replace hD := hD.ext hx13
        replace hJ := hJ.ext hx13
        replace hV := hV.ext hx13
        replace hP := hP.ext hx13
        replace hS16 := hS16.ext hx13
        replace hB902 := hB902.ext hx13
        replace hE := hE.ext hx13
        have hEs : Ext w13 w13 := Upd.refl _
        have hS0 := hx13.size
        have hSB : ∀ b, b < w13.heap.size → b < w12.heap.size ∧ (true = false → (fun x => ¬ AB b901 b900 vb vd x) b) := fun b hb => ⟨by rw [hh13] at hb; exact hb, nofun⟩
        have hSA : ∀ b, b < w13.heap.size → (fun x => ¬ AB b901 b900 vb vd x) b → b < w12.heap.size ∧ (false = false → (fun x => ¬ AB b901 b900 vb vd x) b) := fun b hb h => ⟨by rw [hh13] at hb; exact hb, fun _ => h⟩
        have hDs := hD
        have hJs := hJ
        have hVs := hV
        have hPs := hP
        have hS16s := hS16
        have hB902s := hB902
        refine R.move ?_
        refine R.nilCheck rfl ?_
        refine R.fld fa69_1 rfl ?_
        refine R.loadB t66 hB902 rfl rfl rfl (hSA b902 hB902s.lt ((fun e => e.elim (fun e => hJs.blk.ne hB902s (by decide) e.symm) (fun e => hDs.notDB hB902s (by decide) e)))) ?_
        refine R.move ?_
        refine R.nilCheck rfl ?_
        refine R.fld fa69_3 rfl ?_
        refine R.loadB t3 hB902 rfl rfl rfl (hSA b902 hB902s.lt ((fun e => e.elim (fun e => hJs.blk.ne hB902s (by decide) e.symm) (fun e => hDs.notDB hB902s (by decide) e)))) ?_
        refine R.call3 ent36 (appendP _ hD hJ (RU8.of (show SU8s _ (.slice none 0 0) [] from Sl.nil _ _ _)) (fun _ h => absurd h (List.not_mem_nil)) hA3.ok (by rw [hA7]; exact hat) (by decide) hA6 (by omega) (appendL_down hA5)) rfl rfl rfl ?_
        rintro v118 w14 ⟨hU14, hDn14, vl3, us3, hJn118, rfl⟩
        refine ⟨fun _ => hU14.agree (fun x hx => ⟨Nat.lt_of_lt_of_le hx.1 (Nat.le_trans hS0 hEs.size), hx.2 rfl⟩), ?_⟩
        replace hV := hV.upA hU14 hD hJ (by decide)
        replace hP := hP.upA hU14 hD hJ (by decide)
        replace hS16 := hS16.upA hU14 hD hJ (by decide)
        replace hB902 := hB902.upA hU14 hD hJ (by decide)
        replace hE := hE.trans hU14 (fun x _ h => .inr h)
        clear hD hJ
        have hD := hDn14
        have hJ := hJn118
        refine R.move ?_
        refine R.extract rfl rfl ?_
        refine R.extract rfl rfl ?_
        refine R.assign ?_
        refine R.assign ?_
        refine R.nil ?_
        refine E.seq ?_
        refine E.forget [(0, .pointer (some ⟨b902, 0, none⟩)), (9, v16), (10, .int .i64 ((s.first + (p % (s.live.length + 1)) : Nat) : Int)), (12, .int .i64 ((0 : Nat) : Int)), (13, .int .i64 ((420 : Nat) : Int))] ⟨rfl, rfl, rfl, rfl, rfl, trivial⟩ (fun e => ?_)
        refine E.regionP rfl ?_
        refine R.move ?_
        refine R.neq (b := false) rfl rfl (by decide) ?_
        refine R.move ?_
        refine R.gT rfl rfl ?_
        refine R.move ?_
        refine R.gT rfl rfl ?_
        refine R.neq (b := false) rfl rfl (by decide) ?_
        refine R.pickF rfl ?_
        refine R.nil ?_
        refine E.condF rfl ?_
        refine E.skip ?_
        refine E.seq ?_
        refine E.regionP rfl ?_
        refine R.move ?_
        refine R.move ?_
        refine R.move ?_
        refine R.move ?_
        refine R.move ?_
        refine R.move ?_
        refine R.nilCheck rfl ?_
        refine R.fld fa69_4 rfl ?_
        refine R.store t55 hB902 rfl rfl (hS16.one) (by simp) nofun ?_
        intro w15 hU15 hs15 hN15
        replace hD := hD.upT hU15 hB902 (by decide)
        replace hJ := hJ.upT hU15 hB902 (by decide)
        replace hV := hV.upT hU15 hB902 (by decide)
        replace hP := hP.upT hU15 hB902 (by decide)
        replace hS16 := hS16.upT hU15 hB902 (by decide)
        replace hE := hE.trans hU15 (fun x _ h => .inl h)
        replace hB902 : Blk _ b902 69 #[.pointer (some ⟨b900, 0, none⟩), .pointer (some ⟨b901, 0, none⟩), vL, .int .i64 ((s.first : Nat) : Int), v16, .bool (s.waits), .int .i64 ((s.frm : Nat) : Int), .int .i64 ((s.cnt + 1 : Nat) : Int)] := hN15
        clear hN15
        refine R.nilCheck rfl ?_
        refine R.fld fa69_6 rfl ?_
        refine R.store t3 hB902 rfl rfl (rfl) (by simp) nofun ?_
        intro w16 hU16 hs16 hN16
        replace hD := hD.upT hU16 hB902 (by decide)
        replace hJ := hJ.upT hU16 hB902 (by decide)
        replace hV := hV.upT hU16 hB902 (by decide)
        replace hP := hP.upT hU16 hB902 (by decide)
        replace hS16 := hS16.upT hU16 hB902 (by decide)
        replace hE := hE.trans hU16 (fun x _ h => .inl h)
        replace hB902 : Blk _ b902 69 #[.pointer (some ⟨b900, 0, none⟩), .pointer (some ⟨b901, 0, none⟩), vL, .int .i64 ((s.first : Nat) : Int), v16, .bool (s.waits), .int .i64 ((s.first + (p % (s.live.length + 1)) : Nat) : Int), .int .i64 ((s.cnt + 1 : Nat) : Int)] := hN16
        clear hN16
        refine R.nilCheck rfl ?_
        refine R.fld fa69_5 rfl ?_
        refine R.store t4 hB902 rfl rfl (rfl) (by simp) nofun ?_
        intro w17 hU17 hs17 hN17
        replace hD := hD.upT hU17 hB902 (by decide)
        replace hJ := hJ.upT hU17 hB902 (by decide)
        replace hV := hV.upT hU17 hB902 (by decide)
        replace hP := hP.upT hU17 hB902 (by decide)
        replace hS16 := hS16.upT hU17 hB902 (by decide)
        replace hE := hE.trans hU17 (fun x _ h => .inl h)
        replace hB902 : Blk _ b902 69 #[.pointer (some ⟨b900, 0, none⟩), .pointer (some ⟨b901, 0, none⟩), vL, .int .i64 ((s.first : Nat) : Int), v16, .bool (true), .int .i64 ((s.first + (p % (s.live.length + 1)) : Nat) : Int), .int .i64 ((s.cnt + 1 : Nat) : Int)] := hN17
        clear hN17
        refine R.nilCheck rfl ?_
        refine R.fld fa69_1 rfl ?_
        refine R.store t66 hB902 rfl rfl (rfl) (by simp) nofun ?_
        intro w18 hU18 hs18 hN18
        replace hD := hD.upT hU18 hB902 (by decide)
        replace hJ := hJ.upT hU18 hB902 (by decide)
        replace hV := hV.upT hU18 hB902 (by decide)
        replace hP := hP.upT hU18 hB902 (by decide)
        replace hS16 := hS16.upT hU18 hB902 (by decide)
        replace hE := hE.trans hU18 (fun x _ h => .inl h)
        replace hB902 : Blk _ b902 69 #[.pointer (some ⟨b900, 0, none⟩), .pointer none, vL, .int .i64 ((s.first : Nat) : Int), v16, .bool (true), .int .i64 ((s.first + (p % (s.live.length + 1)) : Nat) : Int), .int .i64 ((s.cnt + 1 : Nat) : Int)] := hN18
        clear hN18
        refine R.nil ?_
        refine E.seq ?_
        refine E.forget [] trivial (fun e => ?_)
        refine E.regionP rfl ?_
        refine R.assign ?_
        refine R.nil ?_
        refine E.ret ?_
        refine ret1 (.bool (true)) rfl rfl ⟨_, rfl, ?_⟩
        refine ⟨hE, rfl, xs16, hl16, hb16, .inr (.inr ⟨_, _, hA1, ⟨_, _, _, hB902, hV, hS16⟩, hD⟩)⟩
end Go.Proofs.Ytlplogplicgfiaa
