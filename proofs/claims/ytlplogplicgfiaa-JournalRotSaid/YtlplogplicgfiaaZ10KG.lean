import Derived.Test.YtlplogplicgfiaaZ10KF
namespace Go.Proofs.Ytlplogplicgfiaa
open Go Go.RowKit
structure HoldP (j : Jn) (l : List (List Nat)) (f : Nat) : Prop where
  ok : JOK j
  fst : f = firstN j.live
  len : j.live.length = l.length
  dat : ∀ i, i < l.length → (j.live.getD i Rc0).dat = l.getD i []
  b : ∀ i, i < j.live.length → (j.live.getD i Rc0).dat.length ≤ 4032
theorem HoldP.lst {j : Jn} {l : List (List Nat)} {f : Nat} (h : HoldP j l f) : lastN j.live + 1 = f + l.length := by
  have h1 := h.fst
  have h2 := h.len
  rcases Nat.eq_zero_or_pos j.live.length with h0 | h0
  · have e : j.live = [] := List.length_eq_zero_iff.1 h0
    rw [e] at h1 h2
    rw [e]
    simp [firstN, lastN, Rc0] at *
    omega
  · have := h.ok.num (j.live.length - 1) (by omega)
    unfold lastN
    omega
theorem bytesT (w : World) {v1 v2 : Value} {xs : List Nat} (h1 : RU8 w v1 xs) (h2 : RU8 w v2 xs) (hl : xs.length ≤ 1000000) : Calls Try.prog 56 #[v1, v2] w (Ret fun r w' => Ext w w' ∧ r = .bool true) :=
  (bytes_ w h1 h2 hl).mono (fun _ _ ⟨v, e, q1, q2⟩ => ⟨v, e, q1, by rw [q2]; simp⟩)
theorem holds_ (w : World) {b902 b901 b900 : Nat} {vl vL vp : Value} {us uL : List Value} {j : Jn} {l : List (List Nat)} {f fr c : Nat} {wt : Bool} (hB902 : Blk w b902 69 #[.pointer (some ⟨b900, 0, none⟩), .pointer (some ⟨b901, 0, none⟩), vL, .int .i64 ((f : Nat) : Int), vp, .bool wt, .int .i64 ((fr : Nat) : Int), .int .i64 ((c : Nat) : Int)]) (hJ : JM w b901 b900 vl us j) (hV : LvM w vL uL l) (hH : HoldP j l f) :
    Calls Try.prog 38 #[.pointer (some ⟨b902, 0, none⟩)] w (Ret fun r w' => Ext w w' ∧ r = .bool true) := by
  have hlst := hH.lst
  have hfst := hH.fst
  have hlen := hH.len
  have hmx := hH.ok.max
  have hf1 := hH.ok.fst
  have hln := hH.ok.len
  refine calls_E (args := [.pointer (some ⟨b902, 0, none⟩)]) 110 Try.func38 rfl rfl (by simp) ?_
  have hE : Ext w w := Upd.refl w
  refine E.seq ?_
  refine E.regionP rfl ?_
  refine R.assign ?_
  refine R.nil ?_
  refine E.seq ?_
  refine E.seq ?_
  refine E.regionW (fun c x => x < w.heap.size ∧ (c = false → True)) []  mixed rfl (by kernel_rfl) ?_
  intro w1 hx1 hh1
  replace hJ := hJ.ext hx1
  replace hV := hV.ext hx1
  replace hB902 := hB902.ext hx1
  replace hE := hE.ext hx1
  have hEs : Ext w1 w1 := Upd.refl _
  have hS0 := hx1.size
  have hSB : ∀ b, b < w1.heap.size → b < w.heap.size ∧ (true = false → (fun x => True) b) := fun b hb => ⟨by rw [hh1] at hb; exact hb, nofun⟩
  have hSA : ∀ b, b < w1.heap.size → (fun x => True) b → b < w.heap.size ∧ (false = false → (fun x => True) b) := fun b hb h => ⟨by rw [hh1] at hb; exact hb, fun _ => h⟩
  have hSO : ∀ b, b < w.heap.size → b < w.heap.size ∧ (false = false → (fun x => True) b) := fun b hb => hSA b (Nat.lt_of_lt_of_le hb hE.size) (trivial)
  have hJs := hJ
  have hVs := hV
  have hB902s := hB902
  refine R.move ?_
  refine R.nilCheck rfl ?_
  refine R.fld fa69_1 rfl ?_
  refine R.loadB t66 hB902 rfl rfl rfl (hSA b902 hB902s.lt (trivial)) ?_
  refine R.callE1 ent40 (first_ _ hJ hH.ok.len) rfl (fun _ _ hb => Nat.lt_of_lt_of_le hb.1 (Nat.le_trans hS0 hEs.size)) ?_
  rintro v15 w2 hx2 rfl
  replace hJ := hJ.ext hx2
  replace hV := hV.ext hx2
  replace hB902 := hB902.ext hx2
  replace hE := hE.ext hx2
  replace hEs := hEs.ext hx2
  refine R.move ?_
  refine R.nilCheck rfl ?_
  refine R.fld fa69_3 rfl ?_
  refine R.loadB t3 hB902 rfl rfl rfl (hSA b902 hB902s.lt (trivial)) ?_
  refine R.neq (b := !decide (((((firstN j.live) : Nat) : Int)) = (((f : Nat) : Int)))) rfl rfl rfl ?_
  refine R.move ?_
  have hg21 := Bool.eq_false_or_eq_true (!decide (((((firstN j.live) : Nat) : Int)) = (((f : Nat) : Int))))
  rcases hg21 with hg21 | hg21
  · have hg21q := hg21
    replace hg21 := nT hg21
    exact absurd hg21 (by omega)
  · have hg21q := hg21
    replace hg21 := nF hg21
    refine R.gT rfl (congrArg Value.bool hg21q) ?_
    refine R.move ?_
    refine R.gT rfl (congrArg Value.bool hg21q) ?_
    refine R.nilCheck rfl ?_
    refine R.gT rfl (congrArg Value.bool hg21q) ?_
    refine R.fld fa69_1 rfl ?_
    refine R.gT rfl (congrArg Value.bool hg21q) ?_
    refine R.loadB t66 hB902 rfl rfl rfl (hSA b902 hB902s.lt (trivial)) ?_
    refine R.gT rfl (congrArg Value.bool hg21q) ?_
    refine R.callE1 ent37 (lastN_ _ hJ hH.ok.len) rfl (fun _ _ hb => Nat.lt_of_lt_of_le hb.1 (Nat.le_trans hS0 hEs.size)) ?_
    rintro v26 w3 hx3 rfl
    replace hJ := hJ.ext hx3
    replace hV := hV.ext hx3
    replace hB902 := hB902.ext hx3
    replace hE := hE.ext hx3
    replace hEs := hEs.ext hx3
    refine R.gT rfl (congrArg Value.bool hg21q) ?_
    refine R.move ?_
    refine R.gT rfl (congrArg Value.bool hg21q) ?_
    refine R.nilCheck rfl ?_
    refine R.gT rfl (congrArg Value.bool hg21q) ?_
    refine R.fld fa69_3 rfl ?_
    refine R.gT rfl (congrArg Value.bool hg21q) ?_
    refine R.loadB t3 hB902 rfl rfl rfl (hSA b902 hB902s.lt (trivial)) ?_
    refine R.gT rfl (congrArg Value.bool hg21q) ?_
    refine R.move ?_
    refine R.gT rfl (congrArg Value.bool hg21q) ?_
    refine R.nilCheck rfl ?_
    refine R.gT rfl (congrArg Value.bool hg21q) ?_
    refine R.fld fa69_2 rfl ?_
    refine R.gT rfl (congrArg Value.bool hg21q) ?_
    refine R.loadB t67 hB902 rfl rfl rfl (hSA b902 hB902s.lt (trivial)) ?_
    refine R.gT rfl (congrArg Value.bool hg21q) ?_
    refine R.len Try.underlying67 hV.sl.row rfl ?_
    refine R.gT rfl (congrArg Value.bool hg21q) ?_
    refine R.addN (m := f) (n := l.length) rfl rfl (by omega) ?_
    refine R.gT rfl (congrArg Value.bool hg21q) ?_
    refine R.subN (m := (f + l.length)) (n := 1) rfl rfl (by omega) (by omega) ?_
    refine R.gT rfl (congrArg Value.bool hg21q) ?_
    refine R.neq (b := !decide (((((lastN j.live) : Nat) : Int)) = ((((f + l.length) - 1 : Nat) : Int)))) rfl rfl rfl ?_
    refine R.pickF (congrArg Value.bool hg21q) ?_
    refine R.nil ?_
    refine E.cond (b := !decide (((((lastN j.live) : Nat) : Int)) = ((((f + l.length) - 1 : Nat) : Int)))) rfl (fun hc39 => ?_) (fun hc39 => ?_)
    · replace hc39 := nT hc39
      exact absurd hc39 (by omega)
    · replace hc39 := nF hc39
      refine E.skip ?_
      refine E.seq ?_
      refine E.seq ?_
      refine E.forget [(0, .pointer (some ⟨b902, 0, none⟩))] ⟨rfl, trivial⟩ (fun e => ?_)
      refine E.regionP rfl ?_
      refine R.move ?_
      refine R.nilCheck rfl ?_
      refine R.fld fa69_2 rfl ?_
      refine R.loadB t67 hB902 rfl rfl rfl trivial ?_
      refine R.len Try.underlying67 hV.sl.row rfl ?_
      refine R.move ?_
      refine R.nil ?_
      refine E.block ?_
      refine E.loop (fun n e wr => ∃ (i : Nat), n = l.length - i ∧ i ≤ l.length ∧ JM wr b901 b900 vl us j ∧ LvM wr vL uL l ∧ Blk wr b902 69 #[.pointer (some ⟨b900, 0, none⟩), .pointer (some ⟨b901, 0, none⟩), vL, .int .i64 ((f : Nat) : Int), vp, .bool (wt), .int .i64 ((fr : Nat) : Int), .int .i64 ((c : Nat) : Int)] ∧ Ext w wr ∧ Has e [(0, .pointer (some ⟨b902, 0, none⟩)), (43, vL), (44, .int .i64 ((l.length : Nat) : Int)), (45, .int .i64 ((i : Nat) : Int))]) (l.length) ?_ ?_
      · exact ⟨0, rfl, by omega, hJ, hV, hB902, hE, rfl, rfl, rfl, rfl, trivial⟩
      · rintro n e wr ⟨i, rfl, hi, hJ, hV, hB902, hE, hH⟩
        obtain ⟨e, rfl⟩ := hH.ex
        clear hH
        refine E.seq ?_
        refine E.regionP rfl ?_
        refine R.lss (b := decide ((((i : Nat) : Int)) < (((l.length : Nat) : Int)))) rfl rfl rfl ?_
        refine R.nil ?_
        refine E.seq ?_
        refine E.cond (b := decide ((((i : Nat) : Int)) < (((l.length : Nat) : Int)))) rfl (fun hc46 => ?_) (fun hc46 => ?_)
        · replace hc46 := dT hc46
          have hdl := hH.b i (by omega)
          rw [hH.dat i (by omega)] at hdl
          refine E.skip ?_
          refine E.seq ?_
          refine E.block ?_
          refine E.seq ?_
          refine E.regionP rfl ?_
          refine R.move ?_
          refine R.ix (m := i) Try.underlying67 t55 (by decide) hV.sl.row rfl rfl (by omega) ?_
          refine R.load (u := (uL.getD i undef)) t55 hV.sl.row rfl (hV.cell (by omega)) rfl (fun _ _ => trivial) ?_
          refine R.assign ?_
          refine R.assign ?_
          refine R.nil ?_
          refine E.seq ?_
          refine E.regionW (fun c x => x < wr.heap.size ∧ (c = false → True)) []  mixed rfl (by kernel_rfl) ?_
          intro w4 hx4 hh4
          replace hJ := hJ.ext hx4
          replace hV := hV.ext hx4
          replace hB902 := hB902.ext hx4
          replace hE := hE.ext hx4
          have hEs : Ext w4 w4 := Upd.refl _
          have hS0 := hx4.size
          have hSB : ∀ b, b < w4.heap.size → b < wr.heap.size ∧ (true = false → (fun x => True) b) := fun b hb => ⟨by rw [hh4] at hb; exact hb, nofun⟩
          have hSA : ∀ b, b < w4.heap.size → (fun x => True) b → b < wr.heap.size ∧ (false = false → (fun x => True) b) := fun b hb h => ⟨by rw [hh4] at hb; exact hb, fun _ => h⟩
          have hSO : ∀ b, b < w.heap.size → b < wr.heap.size ∧ (false = false → (fun x => True) b) := fun b hb => hSA b (Nat.lt_of_lt_of_le hb hE.size) (trivial)
          have hJs := hJ
          have hVs := hV
          have hB902s := hB902
          refine R.move ?_
          refine R.nilCheck rfl ?_
          refine R.fld fa69_1 rfl ?_
          refine R.loadB t66 hB902 rfl rfl rfl (hSA b902 hB902s.lt (trivial)) ?_
          refine R.move ?_
          refine R.nilCheck rfl ?_
          refine R.fld fa69_3 rfl ?_
          refine R.loadB t3 hB902 rfl rfl rfl (hSA b902 hB902s.lt (trivial)) ?_
          refine R.move ?_
          refine R.addN (m := f) (n := i) rfl rfl (by omega) ?_
          refine R.callE2 ent41 (get_ _ hJ hH.ok hH.b (by omega) (by omega)) rfl rfl (fun _ _ hb => Nat.lt_of_lt_of_le hb.1 (Nat.le_trans hS0 hEs.size)) ?_
          rintro v61 w5 hx5 hT61
          have hE0 := hE
          replace hJ := hJ.ext hx5
          replace hV := hV.ext hx5
          replace hB902 := hB902.ext hx5
          replace hE := hE.ext hx5
          replace hEs := hEs.ext hx5
          unfold GRes at hT61
          rw [if_neg (by omega)] at hT61
          obtain ⟨u61, rfl, hS61, hF61⟩ := hT61
          replace hF61 := hF61.mono hE0.size
          rw [show ((((f + i : Nat) : Int)) - ((firstN j.live : Nat) : Int)).toNat = i by omega, hH.dat i (by omega)] at hS61
          refine R.move ?_
          refine R.extract rfl rfl ?_
          refine R.extract rfl rfl ?_
          refine R.assign ?_
          refine R.assign ?_
          refine R.nil ?_
          refine E.seq ?_
          refine E.forget [(0, .pointer (some ⟨b902, 0, none⟩)), (4, (uL.getD i undef)), (5, u61), (6, .bool (true)), (43, vL), (44, .int .i64 ((l.length : Nat) : Int)), (45, .int .i64 ((i : Nat) : Int))] ⟨rfl, rfl, rfl, rfl, rfl, rfl, rfl, trivial⟩ (fun e => ?_)
          refine E.regionP rfl ?_
          refine R.move ?_
          refine R.not rfl ?_
          refine R.move ?_
          refine R.gT rfl rfl ?_
          refine R.move ?_
          refine R.gT rfl rfl ?_
          refine R.move ?_
          refine R.gT rfl rfl ?_
          refine R.callE2 ent56 (bytesT _ (RU8.of hS61) (RU8.of (hV.rows.rows i (by omega))) (by omega)) rfl rfl nofun ?_
          rintro v69 w6 hx6 rfl
          replace hJ := hJ.ext hx6
          replace hV := hV.ext hx6
          replace hS61 := hS61.ext hx6
          replace hB902 := hB902.ext hx6
          replace hE := hE.ext hx6
          refine R.gT rfl rfl ?_
          refine R.not rfl ?_
          refine R.pickF rfl ?_
          refine R.nil ?_
          refine E.condF rfl ?_
          refine E.skip ?_
          refine E.forget [(0, .pointer (some ⟨b902, 0, none⟩)), (43, vL), (44, .int .i64 ((l.length : Nat) : Int)), (45, .int .i64 ((i : Nat) : Int))] ⟨rfl, rfl, rfl, rfl, trivial⟩ (fun e => ?_)
          refine E.regionP rfl ?_
          refine R.addN (m := i) (n := 1) rfl rfl (by omega) ?_
          refine R.move ?_
          refine R.nil ?_
          exact ⟨l.length - (i + 1), by omega, i + 1, rfl, by omega, hJ, hV, hB902, hE, rfl, rfl, rfl, rfl, trivial⟩
        · replace hc46 := dF hc46
          refine E.exit ?_
          refine E.seq ?_
          refine E.regionW (fun c x => x < wr.heap.size ∧ (c = false → True)) []  mixed rfl (by kernel_rfl) ?_
          intro w7 hx7 hh7
          replace hJ := hJ.ext hx7
          replace hV := hV.ext hx7
          replace hB902 := hB902.ext hx7
          replace hE := hE.ext hx7
          have hEs : Ext w7 w7 := Upd.refl _
          have hS0 := hx7.size
          have hSB : ∀ b, b < w7.heap.size → b < wr.heap.size ∧ (true = false → (fun x => True) b) := fun b hb => ⟨by rw [hh7] at hb; exact hb, nofun⟩
          have hSA : ∀ b, b < w7.heap.size → (fun x => True) b → b < wr.heap.size ∧ (false = false → (fun x => True) b) := fun b hb h => ⟨by rw [hh7] at hb; exact hb, fun _ => h⟩
          have hSO : ∀ b, b < w.heap.size → b < wr.heap.size ∧ (false = false → (fun x => True) b) := fun b hb => hSA b (Nat.lt_of_lt_of_le hb hE.size) (trivial)
          have hJs := hJ
          have hVs := hV
          have hB902s := hB902
          refine R.move ?_
          refine R.nilCheck rfl ?_
          refine R.fld fa69_1 rfl ?_
          refine R.loadB t66 hB902 rfl rfl rfl (hSA b902 hB902s.lt (trivial)) ?_
          refine R.move ?_
          refine R.nilCheck rfl ?_
          refine R.fld fa69_3 rfl ?_
          refine R.loadB t3 hB902 rfl rfl rfl (hSA b902 hB902s.lt (trivial)) ?_
          refine R.subN (m := f) (n := 1) rfl rfl (by omega) (by omega) ?_
          refine R.callE2 ent41 (get_ _ hJ hH.ok hH.b (by omega) (by omega)) rfl rfl (fun _ _ hb => Nat.lt_of_lt_of_le hb.1 (Nat.le_trans hS0 hEs.size)) ?_
          rintro v83 w8 hx8 hT83
          have hE0 := hE
          replace hJ := hJ.ext hx8
          replace hV := hV.ext hx8
          replace hB902 := hB902.ext hx8
          replace hE := hE.ext hx8
          replace hEs := hEs.ext hx8
          unfold GRes at hT83
          rw [if_pos (by omega)] at hT83
          subst hT83
          refine R.move ?_
          refine R.extract rfl rfl ?_
          refine R.extract rfl rfl ?_
          refine R.assign ?_
          refine R.assign ?_
          refine R.nil ?_
          refine E.seq ?_
          refine E.forget [(0, .pointer (some ⟨b902, 0, none⟩)), (8, .bool (false))] ⟨rfl, rfl, trivial⟩ (fun e => ?_)
          refine E.regionW (fun c x => x < w8.heap.size ∧ (c = false → True)) []  mixed rfl (by kernel_rfl) ?_
          intro w9 hx9 hh9
          replace hJ := hJ.ext hx9
          replace hV := hV.ext hx9
          replace hB902 := hB902.ext hx9
          replace hE := hE.ext hx9
          have hEs : Ext w9 w9 := Upd.refl _
          have hS0 := hx9.size
          have hSB : ∀ b, b < w9.heap.size → b < w8.heap.size ∧ (true = false → (fun x => True) b) := fun b hb => ⟨by rw [hh9] at hb; exact hb, nofun⟩
          have hSA : ∀ b, b < w9.heap.size → (fun x => True) b → b < w8.heap.size ∧ (false = false → (fun x => True) b) := fun b hb h => ⟨by rw [hh9] at hb; exact hb, fun _ => h⟩
          have hSO : ∀ b, b < w.heap.size → b < w8.heap.size ∧ (false = false → (fun x => True) b) := fun b hb => hSA b (Nat.lt_of_lt_of_le hb hE.size) (trivial)
          have hJs := hJ
          have hVs := hV
          have hB902s := hB902
          refine R.move ?_
          refine R.nilCheck rfl ?_
          refine R.fld fa69_1 rfl ?_
          refine R.loadB t66 hB902 rfl rfl rfl (hSA b902 hB902s.lt (trivial)) ?_
          refine R.move ?_
          refine R.nilCheck rfl ?_
          refine R.fld fa69_3 rfl ?_
          refine R.loadB t3 hB902 rfl rfl rfl (hSA b902 hB902s.lt (trivial)) ?_
          refine R.move ?_
          refine R.nilCheck rfl ?_
          refine R.fld fa69_2 rfl ?_
          refine R.loadB t67 hB902 rfl rfl rfl (hSA b902 hB902s.lt (trivial)) ?_
          refine R.len Try.underlying67 hV.sl.row rfl ?_
          refine R.addN (m := f) (n := l.length) rfl rfl (by omega) ?_
          refine R.callE2 ent41 (get_ _ hJ hH.ok hH.b (by omega) (by omega)) rfl rfl (fun _ _ hb => Nat.lt_of_lt_of_le hb.1 (Nat.le_trans hS0 hEs.size)) ?_
          rintro v101 w10 hx10 hT101
          have hE0 := hE
          replace hJ := hJ.ext hx10
          replace hV := hV.ext hx10
          replace hB902 := hB902.ext hx10
          replace hE := hE.ext hx10
          replace hEs := hEs.ext hx10
          unfold GRes at hT101
          rw [if_pos (by omega)] at hT101
          subst hT101
          refine R.move ?_
          refine R.extract rfl rfl ?_
          refine R.extract rfl rfl ?_
          refine R.assign ?_
          refine R.assign ?_
          refine R.nil ?_
          refine E.seq ?_
          refine E.forget [(8, .bool (false)), (10, .bool (false))] ⟨rfl, rfl, trivial⟩ (fun e => ?_)
          refine E.regionP rfl ?_
          refine R.move ?_
          refine R.not rfl ?_
          refine R.move ?_
          refine R.gT rfl rfl ?_
          refine R.move ?_
          refine R.gT rfl rfl ?_
          refine R.not rfl ?_
          refine R.pickT rfl ?_
          refine R.assign ?_
          refine R.nil ?_
          refine E.ret ?_
          refine ret1 (.bool (!(false))) rfl rfl ⟨_, rfl, ?_⟩
          exact ⟨hE, rfl⟩
end Go.Proofs.Ytlplogplicgfiaa
