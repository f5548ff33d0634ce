import Derived.Test.YtlplogplicgfiaaZ5KB
namespace Go.Proofs.Ytlplogplicgfiaa
open Go Go.RowKit
def BRp (r : Dk) (x : Rc) (l : List (List Nat)) : Prop := (x = Rc0 ∧ l = []) ∨ (RcP r x ∧ foundR r x.at_ x.h = some l)
theorem foundR_len {r : Dk} {a : Nat} {h : Hd} {l : List (List Nat)} (hf : foundR r a h = some l) : l.length = h.total := by
  unfold foundR at hf
  split at hf
  · exact absurd hf (by simp)
  · exact (foundL_parts hf).1
theorem BRp.len {r : Dk} {x : Rc} {l : List (List Nat)} (h : BRp r x l) : l.length = x.h.total := by
  rcases h with ⟨rfl, rfl⟩ | ⟨_, h⟩
  · rfl
  · exact foundR_len h
theorem BRp.zero {r : Dk} {x : Rc} {l : List (List Nat)} (h : BRp r x l) (h0 : l.length = 0) : x = Rc0 := by
  rcases h with ⟨rfl, rfl⟩ | ⟨h1, h2⟩
  · rfl
  · have := foundR_len h2; have := h1.tot0; omega
def LRes (w' : World) (r : Value) (d : Dk) (x : Rc) : Prop := ∃ v us l, r = .tuple #[.int .i64 ((x.at_ : Nat) : Int), v] ∧ PS w' v us x.h l ∧ BRp d x l
def BfRes (w' : World) (r : Value) (d : Dk) : Option Rc → Prop
  | none => r = .tuple #[.int .i64 ((0 : Nat) : Int), .slice none 0 0]
  | some x => ∃ v us l, r = .tuple #[.int .i64 ((x.at_ : Nat) : Int), v] ∧ PS w' v us x.h l ∧ foundR d x.at_ x.h = some l
theorem findL_none {d : Dk} {a : Nat} {h : Hd} (hf : foundR d a h = none) : findL d a h = none := by rw [findL_foundR, hf]; rfl
theorem findL_some {d : Dk} {a : Nat} {h : Hd} {l : List (List Nat)} (hf : foundR d a h = some l) : findL d a h = some l.flatten := by rw [findL_foundR, hf]; rfl
theorem PS.eq {w : World} {v : Value} {us : List Value} {h g : Hd} {l : List (List Nat)} (p : PS w v us h l) (e : h = g) : PS w v us g l := e ▸ p
set_option maxHeartbeats 1600000 in
theorem rlast_ (w : World) {rb rd : Value} {r : Dk} (hR : RD w rb rd r) (hbl : r.bl.length ≤ 2000) (hn2 : r.bl.length / 2 = r.n) (hn : 0 < r.n) : Calls Try.prog 60 #[.agg #[rb, rd, .int .i64 r.pw, .bool r.tr]] w (Ret fun x w' => Ext w w' ∧ LRes w' x r (lastL r r.n).1) := by
  have hnl := r.n_le
  refine calls_E (args := [.agg #[rb, rd, .int .i64 (r.pw), .bool (r.tr)]]) 83 Try.func60 rfl rfl (by simp) ?_
  have hE : Ext w w := Upd.refl w
  refine E.seq ?_
  refine E.regionP rfl ?_
  refine R.box rfl nofun ?_
  intro b1 w1 hb1 hx1 hB1
  replace hb1 := Nat.le_trans hE.size hb1
  replace hR := hR.ext hx1
  replace hE := hE.ext hx1
  replace hB1 : Blk _ b1 31 #[rb, rd, .int .i64 (r.pw), .bool (r.tr)] := hB1
  refine R.assign ?_
  refine R.assign ?_
  refine R.nil ?_
  refine E.seq ?_
  refine E.regionP rfl ?_
  refine R.fld fa31_0 rfl ?_
  refine R.loadB t29 hB1 rfl rfl rfl trivial ?_
  refine R.len Try.underlying29 hR.bls.row rfl ?_
  refine R.quoN (m := r.bl.length) (n := 2) rfl rfl (by omega) (by omega) ?_
  rw [hn2]
  refine R.assign ?_
  refine R.nil ?_
  refine E.seq ?_
  refine E.regionP rfl ?_
  refine R.assign ?_
  refine R.nil ?_
  refine E.seq ?_
  refine E.regionP rfl ?_
  refine R.assign ?_
  refine R.nil ?_
  refine E.seq ?_
  refine E.seq ?_
  refine E.regionP rfl ?_
  refine R.assign ?_
  refine R.nil ?_
  refine E.block ?_
  refine E.loop (fun n e wr => ∃ (p : Nat) (v : Value) (us : List Value) (l : List (List Nat)), n = r.n - p ∧ p ≤ r.n ∧ BRp r (lastL r p).1 l ∧ RD wr rb rd r ∧ PS wr v us (lastL r p).1.h l ∧ Blk wr b1 31 #[rb, rd, .int .i64 (r.pw), .bool (r.tr)] ∧ Ext w wr ∧ Has e [(1, .pointer (some ⟨b1, 0, none⟩)), (4, .int .i64 ((r.n : Nat) : Int)), (5, .int .i64 (((lastL r p).1.at_ : Nat) : Int)), (6, v), (7, .int .i64 ((p : Nat) : Int))]) (r.n) ?_ ?_
  · exact ⟨0, .slice none 0 0, [], [], rfl, by omega, .inl ⟨rfl, rfl⟩, hR, PS.nil, hB1, hE, rfl, rfl, rfl, rfl, rfl, trivial⟩
  · rintro n e wr ⟨p, v, us, l, rfl, hp, hB, hR, hP, hB1, hE, hH⟩
    obtain ⟨e, rfl⟩ := hH.ex
    clear hH
    refine E.seq ?_
    refine E.seq ?_
    refine E.regionP rfl ?_
    refine R.move ?_
    refine R.move ?_
    refine R.lss (b := decide ((((p : Nat) : Int)) < (((r.n : Nat) : Int)))) rfl rfl rfl ?_
    refine R.nil ?_
    refine E.cond (b := decide ((((p : Nat) : Int)) < (((r.n : Nat) : Int)))) rfl (fun hc18 => ?_) (fun hc18 => ?_)
    · replace hc18 := dT hc18
      refine E.skip ?_
      refine E.seq ?_
      refine E.block ?_
      refine E.seq ?_
      refine E.regionP rfl ?_
      refine R.assign ?_
      refine R.nil ?_
      refine E.block ?_
      refine E.loop (fun n e wr => ∃ (t : Nat) (v : Value) (us : List Value) (l : List (List Nat)), n = 2 - t ∧ t ≤ 2 ∧ BRp r (lpl r (lastL r p) p t).1 l ∧ RD wr rb rd r ∧ PS wr v us (lpl r (lastL r p) p t).1.h l ∧ Blk wr b1 31 #[rb, rd, .int .i64 (r.pw), .bool (r.tr)] ∧ Ext w wr ∧ Has e [(1, .pointer (some ⟨b1, 0, none⟩)), (4, .int .i64 ((r.n : Nat) : Int)), (5, .int .i64 (((lpl r (lastL r p) p t).1.at_ : Nat) : Int)), (6, v), (7, .int .i64 ((p : Nat) : Int)), (8, .int .i64 ((t : Nat) : Int))]) (2) ?_ ?_
      · exact ⟨0, v, us, l, rfl, by omega, hB, hR, hP, hB1, hE, rfl, rfl, rfl, rfl, rfl, rfl, trivial⟩
      · rintro n e wr ⟨t, v, us, l, rfl, ht, hB, hR, hP, hB1, hE, hH⟩
        obtain ⟨e, rfl⟩ := hH.ex
        clear hH
        refine E.seq ?_
        refine E.seq ?_
        refine E.regionP rfl ?_
        refine R.move ?_
        refine R.lss (b := decide ((((t : Nat) : Int)) < (((2 : Nat) : Int)))) rfl rfl rfl ?_
        refine R.nil ?_
        refine E.cond (b := decide ((((t : Nat) : Int)) < (((2 : Nat) : Int)))) rfl (fun hc22 => ?_) (fun hc22 => ?_)
        · replace hc22 := dT hc22
          have ht1 : t * r.n ≤ 1 * r.n := Nat.mul_le_mul_right _ (by omega)
          refine E.skip ?_
          refine E.seq ?_
          refine E.block ?_
          refine E.seq ?_
          refine E.regionP rfl ?_
          refine R.loadA t31 hB1 rfl rfl rfl trivial ?_
          refine R.move ?_
          refine R.move ?_
          refine R.move ?_
          refine R.mulN (m := t) (n := r.n) rfl rfl (by omega) ?_
          refine R.addN (m := p) (n := (t * r.n)) rfl rfl (by omega) ?_
          refine R.callE2 ent70 (rtake_ _ hR (by omega)) rfl rfl nofun ?_
          rintro v32 w2 hx2 hT32
          have hE0 := hE
          replace hR := hR.ext hx2
          replace hP := hP.ext hx2
          replace hB1 := hB1.ext hx2
          replace hE := hE.ext hx2
          have hk32 := takeCases (blkO (r.read ((p + (t * r.n) : Nat) : Int)))
          rcases hk32 with hk32 | ⟨g32, j32, dt32, hk32⟩
          · replace hk32 : tk r ((p + (t * r.n) : Nat) : Int) = none := hk32
            rw [hk32] at hT32
            replace hT32 : _ = Value.tuple _ := hT32
            subst hT32
            refine R.move ?_
            refine R.extract rfl rfl ?_
            refine R.extract rfl rfl ?_
            refine R.alloc t120 nofun ?_
            intro b9 w3 hb9 hx3 hB9
            have hn_hP_9 := hP.new hb9
            replace hb9 := Nat.le_trans hE.size hb9
            replace hR := hR.ext hx3
            replace hP := hP.ext hx3
            replace hB1 := hB1.ext hx3
            replace hE := hE.ext hx3
            replace hB9 : Blk _ b9 120 #[.int .i64 ((0 : Nat) : Int), .int .i64 ((0 : Nat) : Int), .int .i64 ((0 : Nat) : Int), .int .i64 ((0 : Nat) : Int), .int .i64 ((0 : Nat) : Int), .slice none 0 0] := hB9
            refine R.storeA t120 hB9 rfl rfl rfl rfl (ones6 rfl rfl rfl rfl rfl rfl) nofun ?_
            intro w4 hU4 hs4 hN4
            replace hR := hR.upT hU4 hB9 (by decide)
            replace hP := hP.upN hU4 hn_hP_9
            replace hB1 := hB1.upT hU4 hB9 (by decide)
            replace hE := hE.own hU4 hb9
            replace hB9 : Blk _ b9 120 #[.int .i64 ((0 : Nat) : Int), .int .i64 ((0 : Nat) : Int), .int .i64 ((0 : Nat) : Int), .int .i64 ((0 : Nat) : Int), .int .i64 ((0 : Nat) : Int), .slice none 0 0] := hN4
            clear hN4
            refine R.assign ?_
            refine R.nil ?_
            refine E.seq ?_
            refine E.seq ?_
            refine E.forget [(1, .pointer (some ⟨b1, 0, none⟩)), (4, .int .i64 ((r.n : Nat) : Int)), (5, .int .i64 (((lpl r (lastL r p) p t).1.at_ : Nat) : Int)), (6, v), (7, .int .i64 ((p : Nat) : Int)), (8, .int .i64 ((t : Nat) : Int)), (9, .pointer (some ⟨b9, 0, none⟩)), (10, .bool (false))] ⟨rfl, rfl, rfl, rfl, rfl, rfl, rfl, rfl, trivial⟩ (fun e => ?_)
            refine E.regionP rfl ?_
            refine R.move ?_
            refine R.not rfl ?_
            refine R.move ?_
            refine R.gF rfl rfl rfl ?_
            refine R.gF rfl rfl rfl ?_
            refine R.gF rfl rfl rfl ?_
            refine R.pickT rfl ?_
            refine R.nil ?_
            refine E.condT rfl ?_
            refine E.exit ?_
            refine E.regionP rfl ?_
            refine R.move ?_
            refine R.addN (m := t) (n := 1) rfl rfl (by omega) ?_
            refine R.assign ?_
            refine R.nil ?_
            exact ⟨2 - (t + 1), by omega, t + 1, v, us, l, rfl, by omega, (by rw [lpl_none hk32]; exact hB), hR, (hP.eq (by rw [lpl_none hk32])), hB1, hE, rfl, rfl, (by show Value.int _ _ = _; rw [lpl_none hk32]), rfl, rfl, rfl, trivial⟩
          · replace hk32 : tk r ((p + (t * r.n) : Nat) : Int) = some (g32, j32, dt32) := hk32
            rw [hk32] at hT32
            obtain ⟨u32, rfl, hS32, hF32⟩ := hT32
            replace hF32 := hF32.mono hE0.size
            have htt32 := tk_total hk32
            have hto32 := tk_ok hR.ok hk32
            refine R.move ?_
            refine R.extract rfl rfl ?_
            refine R.extract rfl rfl ?_
            refine R.alloc t120 nofun ?_
            intro b9 w5 hb9 hx5 hB9
            have hn_hP_9 := hP.new hb9
            replace hb9 := Nat.le_trans hE.size hb9
            replace hR := hR.ext hx5
            replace hP := hP.ext hx5
            replace hS32 := hS32.ext hx5
            replace hB1 := hB1.ext hx5
            replace hE := hE.ext hx5
            replace hB9 : Blk _ b9 120 #[.int .i64 ((0 : Nat) : Int), .int .i64 ((0 : Nat) : Int), .int .i64 ((0 : Nat) : Int), .int .i64 ((0 : Nat) : Int), .int .i64 ((0 : Nat) : Int), .slice none 0 0] := hB9
            refine R.storeA t120 hB9 rfl rfl rfl rfl (ones6 rfl rfl rfl rfl rfl hS32.one) nofun ?_
            intro w6 hU6 hs6 hN6
            replace hR := hR.upT hU6 hB9 (by decide)
            replace hP := hP.upN hU6 hn_hP_9
            replace hS32 := hS32.upT hU6 hB9 (by decide)
            replace hB1 := hB1.upT hU6 hB9 (by decide)
            replace hE := hE.own hU6 hb9
            replace hB9 : Blk _ b9 120 #[.int .i64 ((j32 : Nat) : Int), .int .i64 ((g32.total : Nat) : Int), .int .i64 ((g32.number : Nat) : Int), .int .i64 ((g32.life : Nat) : Int), .int .i64 ((g32.first : Nat) : Int), u32] := hN6
            clear hN6
            refine R.assign ?_
            refine R.nil ?_
            refine E.seq ?_
            refine E.seq ?_
            refine E.forget [(1, .pointer (some ⟨b1, 0, none⟩)), (4, .int .i64 ((r.n : Nat) : Int)), (5, .int .i64 (((lpl r (lastL r p) p t).1.at_ : Nat) : Int)), (6, v), (7, .int .i64 ((p : Nat) : Int)), (8, .int .i64 ((t : Nat) : Int)), (9, .pointer (some ⟨b9, 0, none⟩)), (10, .bool (true))] ⟨rfl, rfl, rfl, rfl, rfl, rfl, rfl, rfl, trivial⟩ (fun e => ?_)
            refine E.regionP rfl ?_
            refine R.move ?_
            refine R.not rfl ?_
            refine R.move ?_
            refine R.gT rfl rfl ?_
            refine R.fld fa120_0 rfl ?_
            refine R.gT rfl rfl ?_
            refine R.loadB t3 hB9 rfl rfl rfl trivial ?_
            refine R.gT rfl rfl ?_
            refine R.neq (b := !decide ((((j32 : Nat) : Int)) = (((0 : Nat) : Int)))) rfl rfl rfl ?_
            refine R.pickF rfl ?_
            refine R.nil ?_
            refine E.cond (b := !decide ((((j32 : Nat) : Int)) = (((0 : Nat) : Int)))) rfl (fun hc41 => ?_) (fun hc41 => ?_)
            · replace hc41 := nT hc41
              refine E.exit ?_
              refine E.regionP rfl ?_
              refine R.move ?_
              refine R.addN (m := t) (n := 1) rfl rfl (by omega) ?_
              refine R.assign ?_
              refine R.nil ?_
              exact ⟨2 - (t + 1), by omega, t + 1, v, us, l, rfl, by omega, (by rw [lpl_old hk32 (by omega)]; exact hB), hR, (hP.eq (by rw [lpl_old hk32 (by omega)])), hB1, hE, rfl, rfl, (by show Value.int _ _ = _; rw [lpl_old hk32 (by omega)]), rfl, rfl, rfl, trivial⟩
            · replace hc41 := nF hc41
              refine E.skip ?_
              refine E.seq ?_
              refine E.regionP rfl ?_
              refine R.loadA t31 hB1 rfl rfl rfl trivial ?_
              refine R.move ?_
              refine R.loadA t120 hB9 rfl rfl rfl trivial ?_
              refine R.callE3 ent71 (rfound_ _ (a := p) (p := g32) hR (by omega) hn2 hn (by omega) (by omega) hS32.one) rfl rfl rfl nofun ?_
              rintro v45 w7 hx7 hT45
              replace hR := hR.ext hx7
              replace hP := hP.ext hx7
              replace hS32 := hS32.ext hx7
              replace hB1 := hB1.ext hx7
              replace hB9 := hB9.ext hx7
              replace hE := hE.ext hx7
              have hk45 := optCases (foundR r p g32)
              rcases hk45 with hk45 | ⟨l45, hk45⟩
              · rw [hk45] at hT45
                replace hT45 : _ = Value.slice none 0 0 := hT45
                subst hT45
                refine R.assign ?_
                refine R.nil ?_
                refine E.seq ?_
                refine E.seq ?_
                refine E.forget [(1, .pointer (some ⟨b1, 0, none⟩)), (4, .int .i64 ((r.n : Nat) : Int)), (5, .int .i64 (((lpl r (lastL r p) p t).1.at_ : Nat) : Int)), (6, v), (7, .int .i64 ((p : Nat) : Int)), (8, .int .i64 ((t : Nat) : Int)), (9, .pointer (some ⟨b9, 0, none⟩)), (11, .slice none 0 0)] ⟨rfl, rfl, rfl, rfl, rfl, rfl, rfl, rfl, trivial⟩ (fun e => ?_)
                refine E.regionP rfl ?_
                refine R.move ?_
                refine R.lenV Try.underlying115 rfl ?_
                refine R.eql (b := true) rfl rfl (by decide) ?_
                refine R.nil ?_
                refine E.condT rfl ?_
                refine E.exit ?_
                refine E.regionP rfl ?_
                refine R.move ?_
                refine R.addN (m := t) (n := 1) rfl rfl (by omega) ?_
                refine R.assign ?_
                refine R.nil ?_
                exact ⟨2 - (t + 1), by omega, t + 1, v, us, l, rfl, by omega, (by rw [lpl_miss hk32 (findL_none hk45)]; exact hB), hR, (hP.eq (by rw [lpl_miss hk32 (findL_none hk45)])), hB1, hE, rfl, rfl, (by show Value.int _ _ = _; rw [lpl_miss hk32 (findL_none hk45)]), rfl, rfl, rfl, trivial⟩
              · rw [hk45] at hT45
                obtain ⟨us45, hP45⟩ := hT45
                have hll := foundR_len hk45
                refine R.assign ?_
                refine R.nil ?_
                refine E.seq ?_
                refine E.seq ?_
                refine E.forget [(1, .pointer (some ⟨b1, 0, none⟩)), (4, .int .i64 ((r.n : Nat) : Int)), (5, .int .i64 (((lpl r (lastL r p) p t).1.at_ : Nat) : Int)), (6, v), (7, .int .i64 ((p : Nat) : Int)), (8, .int .i64 ((t : Nat) : Int)), (9, .pointer (some ⟨b9, 0, none⟩)), (11, v45)] ⟨rfl, rfl, rfl, rfl, rfl, rfl, rfl, rfl, trivial⟩ (fun e => ?_)
                refine E.regionP rfl ?_
                refine R.move ?_
                refine R.len Try.underlying115 hP45.sl.row rfl ?_
                refine R.eql (b := decide (((((l45).length : Nat) : Int)) = (((0 : Nat) : Int)))) rfl rfl rfl ?_
                refine R.nil ?_
                refine E.cond (b := decide (((((l45).length : Nat) : Int)) = (((0 : Nat) : Int)))) rfl (fun hc48 => ?_) (fun hc48 => ?_)
                · replace hc48 := dT hc48
                  exact absurd hc48 (by omega)
                · replace hc48 := dF hc48
                  refine E.skip ?_
                  refine E.seq ?_
                  refine E.regionW allS [] mixed rfl (by kernel_rfl) ?_
                  intro w8 hx8 hh8
                  replace hR := hR.ext hx8
                  replace hP := hP.ext hx8
                  replace hS32 := hS32.ext hx8
                  replace hP45 := hP45.ext hx8
                  replace hB1 := hB1.ext hx8
                  replace hB9 := hB9.ext hx8
                  replace hE := hE.ext hx8
                  refine R.move ?_
                  refine R.len Try.underlying115 hP.sl.row rfl ?_
                  refine R.eql (b := decide ((((l.length : Nat) : Int)) = (((0 : Nat) : Int)))) rfl rfl rfl ?_
                  refine R.move ?_
                  have hg52 := Bool.eq_false_or_eq_true (decide ((((l.length : Nat) : Int)) = (((0 : Nat) : Int))))
                  rcases hg52 with hg52 | hg52
                  · have hg52q := hg52
                    replace hg52 := dT hg52
                    refine R.gF rfl (congrArg Value.bool hg52q) rfl ?_
                    refine R.gF rfl (congrArg Value.bool hg52q) rfl ?_
                    refine R.gF rfl (congrArg Value.bool hg52q) rfl ?_
                    refine R.gF rfl (congrArg Value.bool hg52q) rfl ?_
                    refine R.gF rfl (congrArg Value.bool hg52q) rfl ?_
                    refine R.gF rfl (congrArg Value.bool hg52q) rfl ?_
                    refine R.gF rfl (congrArg Value.bool hg52q) rfl ?_
                    refine R.pickT (congrArg Value.bool hg52q) ?_
                    refine R.move ?_
                    refine R.gF rfl rfl rfl ?_
                    refine R.gF rfl rfl rfl ?_
                    refine R.gF rfl rfl rfl ?_
                    refine R.gF rfl rfl rfl ?_
                    refine R.gF rfl rfl rfl ?_
                    refine R.gF rfl rfl rfl ?_
                    refine R.gF rfl rfl rfl ?_
                    refine R.gF rfl rfl rfl ?_
                    refine R.gU rfl rfl ?_
                    refine R.gU rfl rfl ?_
                    refine R.gU rfl rfl ?_
                    refine R.gU rfl rfl ?_
                    refine R.gU rfl rfl ?_
                    refine R.gU rfl rfl ?_
                    refine R.gU rfl rfl ?_
                    refine R.gF rfl rfl rfl ?_
                    refine R.pickT rfl ?_
                    refine R.nil ?_
                    refine E.condT rfl ?_
                    refine E.forget [(1, .pointer (some ⟨b1, 0, none⟩)), (4, .int .i64 ((r.n : Nat) : Int)), (7, .int .i64 ((p : Nat) : Int)), (8, .int .i64 ((t : Nat) : Int)), (11, v45)] ⟨rfl, rfl, rfl, rfl, rfl, trivial⟩ (fun e => ?_)
                    refine E.regionP rfl ?_
                    refine R.move ?_
                    refine R.move ?_
                    refine R.assign ?_
                    refine R.assign ?_
                    refine R.nil ?_
                    refine E.regionP rfl ?_
                    refine R.move ?_
                    refine R.addN (m := t) (n := 1) rfl rfl (by omega) ?_
                    refine R.assign ?_
                    refine R.nil ?_
                    have hitc : ¬ (j32 ≠ 0 ∨ g32.number < (lpl r (lastL r p) p t).1.h.number ∨ (g32.number = (lpl r (lastL r p) p t).1.h.number ∧ g32.life ≤ (lpl r (lastL r p) p t).1.h.life)) := by
                      have e1 : (lpl r (lastL r p) p t).1.h.number = 0 := by rw [hB.zero (by omega)]; rfl
                      omega
                    exact ⟨2 - (t + 1), by omega, t + 1, v45, us45, l45, rfl, by omega, (by rw [lpl_hit hk32 (hitc) (findL_some hk45)]; exact .inr ⟨RcP.of (r := ⟨g32, p, l45.flatten⟩) hR.ok hk32 (by show p < _; omega) (findL_some hk45), hk45⟩), hR, (hP45.eq (by rw [lpl_hit hk32 (hitc) (findL_some hk45)])), hB1, hE, rfl, rfl, (by show Value.int _ _ = _; rw [lpl_hit hk32 (hitc) (findL_some hk45)]), rfl, rfl, rfl, trivial⟩
                  · have hg52q := hg52
                    replace hg52 := dF hg52
                    refine R.gT rfl (congrArg Value.bool hg52q) ?_
                    refine R.fld fa120_2 rfl ?_
                    refine R.gT rfl (congrArg Value.bool hg52q) ?_
                    refine R.loadB t3 hB9 rfl rfl rfl trivial ?_
                    refine R.gT rfl (congrArg Value.bool hg52q) ?_
                    refine R.move ?_
                    refine R.gT rfl (congrArg Value.bool hg52q) ?_
                    refine R.ix (m := 0) Try.underlying115 t120 (by decide) hP.sl.row rfl rfl (by omega) ?_
                    refine R.gT rfl (congrArg Value.bool hg52q) ?_
                    refine R.fldE fa120_2 hP.sl.row (by rw [pcsC_len, hP.rows.len]; omega) rfl ?_
                    refine R.gT rfl (congrArg Value.bool hg52q) ?_
                    refine R.load (u := .int .i64 (((lpl r (lastL r p) p t).1.h.number : Nat) : Int)) t3 hP.sl.row rfl (pcs_cell (by rw [hP.rows.len]; omega) 2 (by decide)) rfl (fun _ _ => trivial) ?_
                    refine R.gT rfl (congrArg Value.bool hg52q) ?_
                    refine R.gtr (b := decide (((((lpl r (lastL r p) p t).1.h.number : Nat) : Int)) < (((g32.number : Nat) : Int)))) rfl rfl rfl ?_
                    refine R.pickF (congrArg Value.bool hg52q) ?_
                    refine R.move ?_
                    have hg61 := Bool.eq_false_or_eq_true (decide (((((lpl r (lastL r p) p t).1.h.number : Nat) : Int)) < (((g32.number : Nat) : Int))))
                    rcases hg61 with hg61 | hg61
                    · have hg61q := hg61
                      replace hg61 := dT hg61
                      refine R.gF rfl (congrArg Value.bool hg61q) rfl ?_
                      refine R.gF rfl (congrArg Value.bool hg61q) rfl ?_
                      refine R.gF rfl (congrArg Value.bool hg61q) rfl ?_
                      refine R.gF rfl (congrArg Value.bool hg61q) rfl ?_
                      refine R.gF rfl (congrArg Value.bool hg61q) rfl ?_
                      refine R.gF rfl (congrArg Value.bool hg61q) rfl ?_
                      refine R.gF rfl (congrArg Value.bool hg61q) rfl ?_
                      refine R.gF rfl (congrArg Value.bool hg61q) rfl ?_
                      refine R.gU rfl rfl ?_
                      refine R.gU rfl rfl ?_
                      refine R.gU rfl rfl ?_
                      refine R.gU rfl rfl ?_
                      refine R.gU rfl rfl ?_
                      refine R.gU rfl rfl ?_
                      refine R.gU rfl rfl ?_
                      refine R.gF rfl (congrArg Value.bool hg61q) rfl ?_
                      refine R.pickT (congrArg Value.bool hg61q) ?_
                      refine R.nil ?_
                      refine E.condT rfl ?_
                      refine E.forget [(1, .pointer (some ⟨b1, 0, none⟩)), (4, .int .i64 ((r.n : Nat) : Int)), (7, .int .i64 ((p : Nat) : Int)), (8, .int .i64 ((t : Nat) : Int)), (11, v45)] ⟨rfl, rfl, rfl, rfl, rfl, trivial⟩ (fun e => ?_)
                      refine E.regionP rfl ?_
                      refine R.move ?_
                      refine R.move ?_
                      refine R.assign ?_
                      refine R.assign ?_
                      refine R.nil ?_
                      refine E.regionP rfl ?_
                      refine R.move ?_
                      refine R.addN (m := t) (n := 1) rfl rfl (by omega) ?_
                      refine R.assign ?_
                      refine R.nil ?_
                      have hitc : ¬ (j32 ≠ 0 ∨ g32.number < (lpl r (lastL r p) p t).1.h.number ∨ (g32.number = (lpl r (lastL r p) p t).1.h.number ∧ g32.life ≤ (lpl r (lastL r p) p t).1.h.life)) := by omega
                      exact ⟨2 - (t + 1), by omega, t + 1, v45, us45, l45, rfl, by omega, (by rw [lpl_hit hk32 (hitc) (findL_some hk45)]; exact .inr ⟨RcP.of (r := ⟨g32, p, l45.flatten⟩) hR.ok hk32 (by show p < _; omega) (findL_some hk45), hk45⟩), hR, (hP45.eq (by rw [lpl_hit hk32 (hitc) (findL_some hk45)])), hB1, hE, rfl, rfl, (by show Value.int _ _ = _; rw [lpl_hit hk32 (hitc) (findL_some hk45)]), rfl, rfl, rfl, trivial⟩
                    · have hg61q := hg61
                      replace hg61 := dF hg61
                      refine R.gT rfl (congrArg Value.bool hg61q) ?_
                      refine R.fld fa120_2 rfl ?_
                      refine R.gT rfl (congrArg Value.bool hg61q) ?_
                      refine R.loadB t3 hB9 rfl rfl rfl trivial ?_
                      refine R.gT rfl (congrArg Value.bool hg61q) ?_
                      refine R.move ?_
                      refine R.gT rfl (congrArg Value.bool hg61q) ?_
                      refine R.ix (m := 0) Try.underlying115 t120 (by decide) hP.sl.row rfl rfl (by omega) ?_
                      refine R.gT rfl (congrArg Value.bool hg61q) ?_
                      refine R.fldE fa120_2 hP.sl.row (by rw [pcsC_len, hP.rows.len]; omega) rfl ?_
                      refine R.gT rfl (congrArg Value.bool hg61q) ?_
                      refine R.load (u := .int .i64 (((lpl r (lastL r p) p t).1.h.number : Nat) : Int)) t3 hP.sl.row rfl (pcs_cell (by rw [hP.rows.len]; omega) 2 (by decide)) rfl (fun _ _ => trivial) ?_
                      refine R.gT rfl (congrArg Value.bool hg61q) ?_
                      refine R.eql (b := decide ((((g32.number : Nat) : Int)) = ((((lpl r (lastL r p) p t).1.h.number : Nat) : Int)))) rfl rfl rfl ?_
                      refine R.gT rfl (congrArg Value.bool hg61q) ?_
                      refine R.move ?_
                      have hg69 := Bool.eq_false_or_eq_true (decide ((((g32.number : Nat) : Int)) = ((((lpl r (lastL r p) p t).1.h.number : Nat) : Int))))
                      rcases hg69 with hg69 | hg69
                      · have hg69q := hg69
                        replace hg69 := dT hg69
                        refine R.gT rfl (congrArg Value.bool hg69q) ?_
                        refine R.fld fa120_3 rfl ?_
                        refine R.gT rfl (congrArg Value.bool hg69q) ?_
                        refine R.loadB t3 hB9 rfl rfl rfl trivial ?_
                        refine R.gT rfl (congrArg Value.bool hg69q) ?_
                        refine R.move ?_
                        refine R.gT rfl (congrArg Value.bool hg69q) ?_
                        refine R.ix (m := 0) Try.underlying115 t120 (by decide) hP.sl.row rfl rfl (by omega) ?_
                        refine R.gT rfl (congrArg Value.bool hg69q) ?_
                        refine R.fldE fa120_3 hP.sl.row (by rw [pcsC_len, hP.rows.len]; omega) rfl ?_
                        refine R.gT rfl (congrArg Value.bool hg69q) ?_
                        refine R.load (u := .int .i64 (((lpl r (lastL r p) p t).1.h.life : Nat) : Int)) t3 hP.sl.row rfl (pcs_cell (by rw [hP.rows.len]; omega) 3 (by decide)) rfl (fun _ _ => trivial) ?_
                        refine R.gT rfl (congrArg Value.bool hg69q) ?_
                        refine R.gtr (b := decide (((((lpl r (lastL r p) p t).1.h.life : Nat) : Int)) < (((g32.life : Nat) : Int)))) rfl rfl rfl ?_
                        refine R.gT rfl (congrArg Value.bool hg61q) ?_
                        refine R.pickT (congrArg Value.bool hg69q) ?_
                        refine R.pickF (congrArg Value.bool hg61q) ?_
                        refine R.nil ?_
                        refine E.cond (b := decide (((((lpl r (lastL r p) p t).1.h.life : Nat) : Int)) < (((g32.life : Nat) : Int)))) rfl (fun hc78 => ?_) (fun hc78 => ?_)
                        · replace hc78 := dT hc78
                          refine E.forget [(1, .pointer (some ⟨b1, 0, none⟩)), (4, .int .i64 ((r.n : Nat) : Int)), (7, .int .i64 ((p : Nat) : Int)), (8, .int .i64 ((t : Nat) : Int)), (11, v45)] ⟨rfl, rfl, rfl, rfl, rfl, trivial⟩ (fun e => ?_)
                          refine E.regionP rfl ?_
                          refine R.move ?_
                          refine R.move ?_
                          refine R.assign ?_
                          refine R.assign ?_
                          refine R.nil ?_
                          refine E.regionP rfl ?_
                          refine R.move ?_
                          refine R.addN (m := t) (n := 1) rfl rfl (by omega) ?_
                          refine R.assign ?_
                          refine R.nil ?_
                          have hitc : ¬ (j32 ≠ 0 ∨ g32.number < (lpl r (lastL r p) p t).1.h.number ∨ (g32.number = (lpl r (lastL r p) p t).1.h.number ∧ g32.life ≤ (lpl r (lastL r p) p t).1.h.life)) := by omega
                          exact ⟨2 - (t + 1), by omega, t + 1, v45, us45, l45, rfl, by omega, (by rw [lpl_hit hk32 (hitc) (findL_some hk45)]; exact .inr ⟨RcP.of (r := ⟨g32, p, l45.flatten⟩) hR.ok hk32 (by show p < _; omega) (findL_some hk45), hk45⟩), hR, (hP45.eq (by rw [lpl_hit hk32 (hitc) (findL_some hk45)])), hB1, hE, rfl, rfl, (by show Value.int _ _ = _; rw [lpl_hit hk32 (hitc) (findL_some hk45)]), rfl, rfl, rfl, trivial⟩
                        · replace hc78 := dF hc78
                          refine E.skip ?_
                          refine E.forget [(1, .pointer (some ⟨b1, 0, none⟩)), (4, .int .i64 ((r.n : Nat) : Int)), (5, .int .i64 (((lpl r (lastL r p) p t).1.at_ : Nat) : Int)), (6, v), (7, .int .i64 ((p : Nat) : Int)), (8, .int .i64 ((t : Nat) : Int))] ⟨rfl, rfl, rfl, rfl, rfl, rfl, trivial⟩ (fun e => ?_)
                          refine E.regionP rfl ?_
                          refine R.move ?_
                          refine R.addN (m := t) (n := 1) rfl rfl (by omega) ?_
                          refine R.assign ?_
                          refine R.nil ?_
                          exact ⟨2 - (t + 1), by omega, t + 1, v, us, l, rfl, by omega, (by rw [lpl_old hk32 (by omega)]; exact hB), hR, (hP.eq (by rw [lpl_old hk32 (by omega)])), hB1, hE, rfl, rfl, (by show Value.int _ _ = _; rw [lpl_old hk32 (by omega)]), rfl, rfl, rfl, trivial⟩
                      · have hg69q := hg69
                        replace hg69 := dF hg69
                        refine R.gF rfl (congrArg Value.bool hg69q) rfl ?_
                        refine R.gF rfl (congrArg Value.bool hg69q) rfl ?_
                        refine R.gF rfl (congrArg Value.bool hg69q) rfl ?_
                        refine R.gF rfl (congrArg Value.bool hg69q) rfl ?_
                        refine R.gF rfl (congrArg Value.bool hg69q) rfl ?_
                        refine R.gF rfl (congrArg Value.bool hg69q) rfl ?_
                        refine R.gF rfl (congrArg Value.bool hg69q) rfl ?_
                        refine R.gT rfl (congrArg Value.bool hg61q) ?_
                        refine R.pickF (congrArg Value.bool hg69q) ?_
                        refine R.pickF (congrArg Value.bool hg61q) ?_
                        refine R.nil ?_
                        refine E.condF rfl ?_
                        refine E.skip ?_
                        refine E.forget [(1, .pointer (some ⟨b1, 0, none⟩)), (4, .int .i64 ((r.n : Nat) : Int)), (5, .int .i64 (((lpl r (lastL r p) p t).1.at_ : Nat) : Int)), (6, v), (7, .int .i64 ((p : Nat) : Int)), (8, .int .i64 ((t : Nat) : Int))] ⟨rfl, rfl, rfl, rfl, rfl, rfl, trivial⟩ (fun e => ?_)
                        refine E.regionP rfl ?_
                        refine R.move ?_
                        refine R.addN (m := t) (n := 1) rfl rfl (by omega) ?_
                        refine R.assign ?_
                        refine R.nil ?_
                        exact ⟨2 - (t + 1), by omega, t + 1, v, us, l, rfl, by omega, (by rw [lpl_old hk32 (by omega)]; exact hB), hR, (hP.eq (by rw [lpl_old hk32 (by omega)])), hB1, hE, rfl, rfl, (by show Value.int _ _ = _; rw [lpl_old hk32 (by omega)]), rfl, rfl, rfl, trivial⟩
        · replace hc22 := dF hc22
          refine E.exit ?_
          refine E.regionP rfl ?_
          refine R.move ?_
          refine R.addN (m := p) (n := 1) rfl rfl (by omega) ?_
          refine R.assign ?_
          refine R.nil ?_
          obtain rfl : t = 2 := by omega
          exact ⟨r.n - (p + 1), by omega, p + 1, v, us, l, rfl, by omega, hB, hR, hP, hB1, hE, rfl, rfl, rfl, rfl, rfl, trivial⟩
    · replace hc18 := dF hc18
      refine E.exit ?_
      refine E.seq ?_
      refine E.regionP rfl ?_
      refine R.move ?_
      refine R.move ?_
      refine R.assign ?_
      refine R.assign ?_
      refine R.nil ?_
      refine E.ret ?_
      refine ret2 (.int .i64 (((lastL r p).1.at_ : Nat) : Int)) (v) rfl rfl rfl ⟨_, rfl, ?_⟩
      refine ⟨hE, ?_⟩
      obtain rfl : p = r.n := by omega
      exact ⟨v, us, l, rfl, hP, hB⟩
end Go.Proofs.Ytlplogplicgfiaa
