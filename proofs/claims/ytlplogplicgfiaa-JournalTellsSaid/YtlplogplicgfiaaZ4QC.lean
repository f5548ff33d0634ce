import Derived.Test.YtlplogplicgfiaaZ4QB
namespace Go.Proofs.Ytlplogplicgfiaa
open Go Go.RowKit
structure JG (n : Nat) (j : Jn) : Prop where
  ok : JOK j
  free : 0 ≤ freeI n j.live
  at_ : ∀ i, i < j.live.length → (j.live.getD i Rc0).at_ < n
  tot : ∀ i, i < j.live.length → (j.live.getD i Rc0).h.total = cntL (j.live.getD i Rc0).dat.length
  len : ∀ i, i < j.live.length → (j.live.getD i Rc0).dat.length ≤ 4032
  byt : ∀ i, i < j.live.length → ∀ x ∈ (j.live.getD i Rc0).dat, x < 256
theorem JG.lst {n : Nat} {j : Jn} (h : JG n j) : lastN j.live + 1 = firstN j.live + j.live.length := by
  rcases Nat.eq_zero_or_pos j.live.length with h0 | h0
  · have e : j.live = [] := List.length_eq_zero_iff.1 h0; rw [e]; rfl
  · have := h.ok.num (j.live.length - 1) (by omega); unfold lastN; omega
theorem JG.le {n : Nat} {j : Jn} (h : JG n j) : j.live.length ≤ n := by
  have h1 := totalL_ge (l := j.live) (fun i hi => by rw [h.tot i hi]; exact cntL_pos _); have h2 := h.free; unfold freeI at h2; omega
theorem RcP.cnt {d : Dk} {r : Rc} (h : RcP d r) : r.h.total = cntL r.dat.length := by
  have h1 := h.d.lenle; have h2 := h.d.lenlt; have h3 := h.tot0; unfold cntL; rcases (show r.h.total = 1 ∨ 1 < r.h.total by omega) with h4 | h4
  · omega
  · have := h2 h4; omega
theorem JG.of {d : Dk} {x : Rc} {l : List Rc} {life m : Nat} {b : Bool} (h : Chn d x l) (hl : life ≤ 4294967296) : JG d.n ⟨l, life, m, b⟩ :=
  ⟨h.lst'.ok hl, h.free, fun i hi => (h.rc i hi).at_, fun i hi => (h.rc i hi).cnt, fun i hi => by have h1 := (h.rc i hi).d.lenle; have h2 := (h.rc i hi).tot; show (l.getD i Rc0).dat.length ≤ 4032; omega, fun i hi => (h.rc i hi).d.byt⟩
theorem chainL_P {d : Dk} (hd : okD d) (hn : 0 < d.n) {x : Rc} (hx : 0 < x.h.number) : ∀ {f : Nat} {l L : List Rc}, Chn d x l → (l.getD 0 Rc0).h.number - x.h.first = f → chainL d f l = some L → Chn d x L
  | 0, l, L, h, _, e => by cases e; exact h
  | f + 1, l, L, h, hf, e => by
    simp only [chainL] at e
    split at e
    · exact absurd e (by simp)
    · rename_i z hz
      obtain ⟨h1, h2⟩ := beforeL_P hd hn hz
      split at e
      · exact absurd e (by simp)
      · rename_i hfr
        have hc := h.cons hx h1 h2 (by omega) (by omega); exact chainL_P hd hn hx hc (by show z.h.number - _ = f; omega) e
theorem openC_P {d : Dk} (hd : okD d) (hn : 0 < d.n) {L : List Rc} (h : openC d = some L) : Chn d (lastL d d.n).1 L := by
  have hP := (lastL_P hd (Nat.le_refl d.n)).1; have hs := Chn.start hP; unfold openC chainS at h
  split at h
  · rename_i h0; rw [if_pos h0] at hs; cases h; exact hs
  · rename_i h0
    rw [if_neg h0] at hs; exact chainL_P hd hn (by omega) hs rfl h
theorem mendL_n : ∀ {J : List (Nat × List Nat)} {d : Dk} {m : Nat}, (mendL J d m).1.n = d.n
  | [], d, m => rfl
  | (i, b) :: J, d, m => by
    simp only [mendL]
    split
    · exact mendL_n
    · split
      · rw [mendL_n, Dk.write_n]
      · exact Dk.write_n _ _ _
theorem openL_P {d d' : Dk} {e : Nat} {o : Option Jn} (hd : okD d) (h : openL d = (d', e, o)) : d'.n = d.n ∧ ((e = 0 ∧ 0 < d.n ∧ ∃ j, o = some j ∧ JG d'.n j) ∨ (e ≠ 0 ∧ e ≤ 1000 ∧ o = none)) := by
  unfold openL at h
  split at h
  · simp only [Prod.mk.injEq] at h; obtain ⟨rfl, rfl, rfl⟩ := h; exact ⟨rfl, .inr ⟨by decide, by decide, rfl⟩⟩
  · rename_i hn
    split at h
    · simp only [Prod.mk.injEq] at h; obtain ⟨rfl, rfl, rfl⟩ := h; exact ⟨rfl, .inr ⟨by decide, by decide, rfl⟩⟩
    · rename_i l hl
      split at h
      · simp only [Prod.mk.injEq] at h; obtain ⟨rfl, rfl, rfl⟩ := h; exact ⟨rfl, .inr ⟨by decide, by decide, rfl⟩⟩
      · rename_i hlf
        have hmn := mendL_n (J := jobsL d.n l) (d := d) (m := 0); have hlife := (lastL_P hd (Nat.le_refl d.n)).2
        cases hm : mendL (jobsL d.n l) d 0 with
        | mk d2 x =>
          obtain ⟨m, b⟩ := x; rw [hm] at h hmn
          cases b with
          | true =>
            simp only [Prod.mk.injEq] at h; obtain ⟨rfl, rfl, rfl⟩ := h; refine ⟨hmn, .inl ⟨rfl, by omega, _, rfl, ?_⟩⟩; have hmn' : d2.n = d.n := hmn; rw [hmn']; exact JG.of (openC_P hd (by omega) hl) (by omega)
          | false =>
            simp only [Prod.mk.injEq] at h; obtain ⟨rfl, rfl, rfl⟩ := h; exact ⟨hmn, .inr ⟨by decide, by decide, rfl⟩⟩
theorem RJ.ext {w w' : World} {rb rd vR vP : Value} {uR : List Value} {d : Dk} {j : Jn} (h : RJ w rb rd vR vP uR d j) (u : Ext w w') : RJ w' rb rd vR vP uR d j := ⟨h.d.ext u, h.recs.ext u, h.pls.ext u⟩
theorem map_dat {L : List Rc} {i : Nat} (hi : i < L.length) : (L.map (·.dat)).getD i [] = (L.getD i Rc0).dat := by
  simp only [List.getD_eq_getElem?_getD, List.getElem?_map, List.getElem?_eq_getElem hi]; rfl
theorem RJ.row {w : World} {rb rd vR vP : Value} {uR : List Value} {d : Dk} {j : Jn} (h : RJ w rb rd vR vP uR d j) {i : Nat} (hi : i < j.live.length) : SU8s w (uR.getD i undef) (j.live.getD i Rc0).dat := by
  have := h.recs.rows.rows i (by rw [List.length_map]; exact hi); rw [map_dat hi] at this; exact this
theorem RJ.rsl {w : World} {rb rd vR vP : Value} {uR : List Value} {d : Dk} {j : Jn} (h : RJ w rb rd vR vP uR d j) : Sl w 55 1 vR j.live.length uR := by have := h.recs.sl; rwa [List.length_map] at this
theorem RJ.cell {w : World} {rb rd vR vP : Value} {uR : List Value} {d : Dk} {j : Jn} (h : RJ w rb rd vR vP uR d j) {i : Nat} (hi : i < j.live.length) : uR[i * 1 + 0]? = some (uR.getD i undef) := by
  have := h.recs.rows.len; rw [List.length_map] at this; rw [Nat.mul_one, Nat.add_zero, List.getD_eq_getElem?_getD, List.getElem?_eq_getElem (by omega)]; rfl
theorem rcount_ (w : World) {m : Nat} (hm : m ≤ 1000000000) : Calls Try.prog 64 #[.int .i64 (m : Nat)] w (Ret fun x w' => Ext w w' ∧ x = .int .i64 ((cntL m : Nat) : Int)) := by
  refine calls_E (args := [N6 m]) 8 Try.func64 rfl rfl (by simp) ?_; have hE : Ext w w := Upd.refl w; refine E.seq ?_; refine E.regionP rfl ?_; refine R.assign ?_; refine R.nil ?_; (iterate 2 refine E.seq ?_); refine E.regionP rfl ?_; refine R.move ?_; refine R.eql (b := decide (((m : Int)) = (((0 : Nat) : Int)))) rfl rfl rfl ?_; refine R.nil ?_; refine E.cond (b := decide (((m : Int)) = (((0 : Nat) : Int)))) rfl (fun hc4 => ?_) (fun hc4 => ?_)
  · replace hc4 := dT hc4; refine E.seq ?_; refine E.regionP rfl ?_; refine R.assign ?_; refine R.nil ?_; refine E.ret ?_; refine ret1 (N6 1) rfl rfl ⟨_, rfl, ?_⟩; refine ⟨hE, ?_⟩; have e : cntL m = 1 := by unfold cntL; omega
    rw [e]
  · replace hc4 := dF hc4; refine E.skip ?_; refine E.seq ?_; refine E.regionP rfl ?_; refine R.move ?_; refine R.addN (m := m) (n := 47) rfl rfl (by omega) ?_; refine R.quoN (m := (m + 47)) (n := 48) rfl rfl (by omega) (by omega) ?_; refine R.assign ?_; refine R.nil ?_; refine E.ret ?_; refine ret1 (N6 ((m + 47) / 48)) rfl rfl ⟨_, rfl, ?_⟩; refine ⟨hE, ?_⟩; have e : cntL m = (m + 47) / 48 := by unfold cntL; omega
    rw [e]
theorem rfree_ (w : World) {rb rd vR vP : Value} {uR : List Value} {d : Dk} {j : Jn} (hG : RJ w rb rd vR vP uR d j) (hg : JG d.n j) (hn : 0 < d.n) : Calls Try.prog 65 #[.agg (rjC rb rd vR vP d j)] w (Ret fun x w' => Ext w w' ∧ x = .int .i64 (freeI d.n j.live)) := by
  have hbn := Dk.n_pos hn; have hle := hg.le; refine calls_E (args := [.agg #[rb, rd, .int .i64 (d.pw), .bool (d.tr), vR, vP, N6 (firstN j.live), N6 j.life, N6 j.mended, .bool (j.down)]]) 27 Try.func65 rfl rfl (by simp) ?_; have hE : Ext w w := Upd.refl w; refine E.seq ?_; refine E.regionP rfl ?_; refine R.box rfl nofun ?_; intro b1 w1 hb1 hx1 hB1; replace hb1 := Nat.le_trans hE.size hb1; replace hG := hG.ext hx1; replace hE := hE.ext hx1; replace hB1 : Blk _ b1 93 #[rb, rd, .int .i64 (d.pw), .bool (d.tr), vR, vP, N6 (firstN j.live), N6 j.life, N6 j.mended, .bool (j.down)] := hB1; refine R.assign ?_; refine R.nil ?_; refine E.seq ?_; refine E.regionP rfl ?_; refine R.fld fa93_0 rfl ?_; refine R.fld fa31_0 rfl ?_; refine R.loadB t29 hB1 rfl rfl rfl trivial ?_; refine R.len Try.underlying29 hG.d.bls.row rfl ?_; refine R.quoN (m := d.bl.length) (n := 2) rfl rfl (by omega) (by omega) ?_; rw [show d.bl.length / 2 = d.n by omega]; refine R.assign ?_; refine R.nil ?_; (iterate 2 refine E.seq ?_); refine E.regionP rfl ?_; refine R.assign ?_; refine R.nil ?_; refine E.block ?_; refine E.loop (fun n e wr => ∃ (i : Nat), n = j.live.length - i ∧ i ≤ j.live.length ∧ RJ wr rb rd vR vP uR d j ∧ Blk wr b1 93 #[rb, rd, .int .i64 (d.pw), .bool (d.tr), vR, vP, N6 (firstN j.live), N6 j.life, N6 j.mended, .bool (j.down)] ∧ Ext w wr ∧ Has e [(1, P6 b1), (3, .int .i64 (((d.n : Int) - ((totalL (j.live.take i) : Nat) : Int)))), (4, N6 i)]) (j.live.length) ?_ ?_
  · exact ⟨0, rfl, by omega, hG, hB1, hE, rfl, (congrArg (Value.int .i64) (show (d.n : Int) = ((d.n : Int) - ((totalL (j.live.take 0) : Nat) : Int)) from by simp [totalL])), rfl, trivial⟩
  · rintro n e wr ⟨i, rfl, hi, hG, hB1, hE, hH⟩; obtain ⟨e, rfl⟩ := hH.ex; clear hH; (iterate 2 refine E.seq ?_); refine E.regionP rfl ?_; refine R.move ?_; refine R.fld fa93_1 rfl ?_; refine R.loadB t67 hB1 rfl rfl rfl trivial ?_; refine R.len Try.underlying67 hG.rsl.row rfl ?_; refine R.lss (b := decide (((i : Int)) < ((j.live.length : Int)))) rfl rfl rfl ?_; refine R.nil ?_; refine E.cond (b := decide (((i : Int)) < ((j.live.length : Int)))) rfl (fun hc14 => ?_) (fun hc14 => ?_)
    · replace hc14 := dT hc14; have htt := totalL_take (l := j.live) (i := i) (by omega); have hto := hg.tot i (by omega); have htl := hg.len i (by omega); have hca : cntL (j.live.getD i Rc0).dat.length ≤ 84 := by unfold cntL; omega
      have hta := totalL_app (j.live.take i) (j.live.drop i); rw [List.take_append_drop] at hta; have hfr := hg.free; unfold freeI at hfr; refine E.skip ?_; refine E.seq ?_; refine E.block ?_; refine E.regionP rfl ?_; refine R.move ?_; refine R.fld fa93_1 rfl ?_; refine R.loadB t67 hB1 rfl rfl rfl trivial ?_; refine R.move ?_; refine R.ix (m := i) Try.underlying67 t55 (by decide) hG.rsl.row rfl rfl (by omega) ?_; refine R.load (u := (uR.getD i undef)) t55 hG.rsl.row rfl (hG.cell (i := i) (by omega)) rfl (fun _ _ => trivial) ?_; refine R.len Try.underlying55 (hG.row (i := i) (by omega)).row rfl ?_; refine R.callE1 ent64 (rcount_ _ (m := ((j.live.getD i Rc0).dat).length) (by omega)) rfl nofun ?_; rintro v24 w2 hx2 rfl; replace hG := hG.ext hx2; replace hB1 := hB1.ext hx2; replace hE := hE.ext hx2; refine R.subV (m := ((d.n : Int) - ((totalL (j.live.take i) : Nat) : Int))) (n := (((cntL (((j.live.getD i Rc0).dat).length)) : Nat) : Int)) (v := ((d.n : Int) - ((totalL (j.live.take (i + 1)) : Nat) : Int))) rfl rfl (by omega) (by omega) (by omega) ?_; refine R.assign ?_; refine R.nil ?_; refine E.forget [(1, P6 b1), (3, .int .i64 (((d.n : Int) - ((totalL (j.live.take (i + 1)) : Nat) : Int)))), (4, N6 i)] ⟨rfl, rfl, rfl, trivial⟩ (fun e => ?_); refine E.regionP rfl ?_; refine R.move ?_; refine R.addN (m := i) (n := 1) rfl rfl (by omega) ?_; refine R.assign ?_; refine R.nil ?_; exact ⟨j.live.length - (i + 1), by omega, i + 1, rfl, by omega, hG, hB1, hE, rfl, rfl, rfl, trivial⟩
    · replace hc14 := dF hc14; refine E.exit ?_; refine E.seq ?_; refine E.regionP rfl ?_; refine R.move ?_; refine R.assign ?_; refine R.nil ?_; refine E.ret ?_; refine ret1 (.int .i64 (((d.n : Int) - ((totalL (j.live.take i) : Nat) : Int)))) rfl rfl ⟨_, rfl, ?_⟩; refine ⟨hE, ?_⟩; rw [List.take_of_length_le (by omega)]; rfl
theorem rroom_ (w : World) {rb rd vR vP : Value} {uR : List Value} {d : Dk} {j : Jn} (hG : RJ w rb rd vR vP uR d j) (hg : JG d.n j) (hn : 0 < d.n) : Calls Try.prog 66 #[.agg (rjC rb rd vR vP d j)] w (Ret fun x w' => Ext w w' ∧ x = .int .i64 (roomI d.n j.live)) := by
  have hfr := hg.free; have hfn : freeI d.n j.live ≤ 1000 := by have := d.n_le; unfold freeI; omega
  refine calls_E (args := [.agg #[rb, rd, .int .i64 (d.pw), .bool (d.tr), vR, vP, N6 (firstN j.live), N6 j.life, N6 j.mended, .bool (j.down)]]) 12 Try.func66 rfl rfl (by simp) ?_; have hE : Ext w w := Upd.refl w; refine E.seq ?_; refine E.regionP rfl ?_; refine R.box rfl nofun ?_; intro b1 w1 hb1 hx1 hB1; replace hb1 := Nat.le_trans hE.size hb1; replace hG := hG.ext hx1; replace hE := hE.ext hx1; replace hB1 : Blk _ b1 93 #[rb, rd, .int .i64 (d.pw), .bool (d.tr), vR, vP, N6 (firstN j.live), N6 j.life, N6 j.mended, .bool (j.down)] := hB1; refine R.assign ?_; refine R.nil ?_; refine E.seq ?_; refine E.regionP rfl ?_; refine R.loadA t93 hB1 rfl rfl rfl trivial ?_; refine R.callE1 ent65 (rfree_ _ hG hg hn) rfl nofun ?_; rintro v5 w2 hx2 rfl; replace hG := hG.ext hx2; replace hB1 := hB1.ext hx2; replace hE := hE.ext hx2; refine R.assign ?_; refine R.nil ?_; (iterate 2 refine E.seq ?_); refine E.regionP rfl ?_; refine R.move ?_; refine R.eql (b := decide (((freeI d.n j.live)) = (((0 : Nat) : Int)))) rfl rfl rfl ?_; refine R.nil ?_; refine E.cond (b := decide (((freeI d.n j.live)) = (((0 : Nat) : Int)))) rfl (fun hc7 => ?_) (fun hc7 => ?_)
  · replace hc7 := dT hc7; refine E.seq ?_; refine E.regionP rfl ?_; refine R.assign ?_; refine R.nil ?_; refine E.ret ?_; refine ret1 (.int .i64 (-1)) rfl rfl ⟨_, rfl, ?_⟩; refine ⟨hE, ?_⟩; have e : roomI d.n j.live = -1 := by unfold roomI; rw [if_pos (by omega)]
    rw [e]
  · replace hc7 := dF hc7; refine E.skip ?_; (iterate 2 refine E.seq ?_); refine E.regionP rfl ?_; refine R.move ?_; refine R.gtr (b := decide ((((84 : Nat) : Int)) < ((freeI d.n j.live)))) rfl rfl rfl ?_; refine R.nil ?_; refine E.cond (b := decide ((((84 : Nat) : Int)) < ((freeI d.n j.live)))) rfl (fun hc9 => ?_) (fun hc9 => ?_)
    · replace hc9 := dT hc9; refine E.seq ?_; refine E.regionP rfl ?_; refine R.assign ?_; refine R.nil ?_; refine E.ret ?_; refine ret1 (N6 4032) rfl rfl ⟨_, rfl, ?_⟩; refine ⟨hE, ?_⟩; have e : roomI d.n j.live = 4032 := by unfold roomI; rw [if_neg (by omega)]; omega
      rw [e]; rfl
    · replace hc9 := dF hc9; refine E.skip ?_; refine E.seq ?_; refine E.regionP rfl ?_; refine R.move ?_; refine R.mul (m := ((48 : Nat) : Int)) (n := (freeI d.n j.live)) rfl rfl (by omega) (by omega) ?_; refine R.assign ?_; refine R.nil ?_; refine E.ret ?_; refine ret1 (.int .i64 ((((48 : Nat) : Int)) * ((freeI d.n j.live)))) rfl rfl ⟨_, rfl, ?_⟩; refine ⟨hE, ?_⟩; have e : roomI d.n j.live = 48 * freeI d.n j.live := by unfold roomI; rw [if_neg (by omega)]; omega
      rw [e]; rfl
theorem rlastn_ (w : World) {rb rd vR vP : Value} {uR : List Value} {d : Dk} {j : Jn} (hG : RJ w rb rd vR vP uR d j) (hg : JG d.n j) : Calls Try.prog 63 #[.agg (rjC rb rd vR vP d j)] w (Ret fun x w' => Ext w w' ∧ x = .int .i64 ((lastN j.live : Nat) : Int)) := by
  have hlst := hg.lst; have hmx := hg.ok.max; have hln := hg.ok.len; refine calls_E (args := [.agg #[rb, rd, .int .i64 (d.pw), .bool (d.tr), vR, vP, N6 (firstN j.live), N6 j.life, N6 j.mended, .bool (j.down)]]) 10 Try.func63 rfl rfl (by simp) ?_; have hE : Ext w w := Upd.refl w; refine E.seq ?_; refine E.regionP rfl ?_; refine R.box rfl nofun ?_; intro b1 w1 hb1 hx1 hB1; replace hb1 := Nat.le_trans hE.size hb1; replace hG := hG.ext hx1; replace hE := hE.ext hx1; replace hB1 : Blk _ b1 93 #[rb, rd, .int .i64 (d.pw), .bool (d.tr), vR, vP, N6 (firstN j.live), N6 j.life, N6 j.mended, .bool (j.down)] := hB1; refine R.assign ?_; refine R.nil ?_; refine E.seq ?_; refine E.regionP rfl ?_; refine R.fld fa93_3 rfl ?_; refine R.loadB t3 hB1 rfl rfl rfl trivial ?_; refine R.fld fa93_1 rfl ?_; refine R.loadB t67 hB1 rfl rfl rfl trivial ?_; refine R.len Try.underlying67 hG.rsl.row rfl ?_; refine R.addN (m := ((firstN j.live))) (n := j.live.length) rfl rfl (by omega) ?_; refine R.subN (m := (((firstN j.live)) + j.live.length)) (n := 1) rfl rfl (by omega) (by omega) ?_; refine R.assign ?_; refine R.nil ?_; refine E.ret ?_; refine ret1 (N6 ((((firstN j.live)) + j.live.length) - 1)) rfl rfl ⟨_, rfl, ?_⟩; refine ⟨hE, ?_⟩; rw [show firstN j.live + j.live.length - 1 = lastN j.live by omega]
end Go.Proofs.Ytlplogplicgfiaa
