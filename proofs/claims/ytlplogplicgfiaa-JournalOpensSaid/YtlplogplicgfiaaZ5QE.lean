import Derived.Test.YtlplogplicgfiaaZ5QD
import Derived.Test.YtlplogplicgfiaaZ5JY
namespace Go.Proofs.Ytlplogplicgfiaa
open Go Go.RowKit
theorem write_len (d : Dk) (i : Int) (b : List Nat) : (d.write i b).1.bl.length = d.bl.length ∧ (d.write i b).1.bad.length = d.bad.length := by
  unfold Dk.write
  split
  · split
    · exact ⟨rfl, List.length_set⟩
    · exact ⟨List.length_set, List.length_set⟩
  · exact ⟨rfl, rfl⟩
theorem mendL_len : ∀ {J : List (Nat × List Nat)} {d : Dk} {m : Nat}, (mendL J d m).1.bl.length = d.bl.length ∧ (mendL J d m).1.bad.length = d.bad.length
  | [], d, m => ⟨rfl, rfl⟩
  | (i, b) :: J, d, m => by
    have hw := write_len d (i : Int) b
    simp only [mendL]
    split
    · exact mendL_len
    · split
      · obtain ⟨h1, h2⟩ := mendL_len (J := J) (d := (d.write (i : Int) b).1) (m := m + 1)
        exact ⟨h1.trans hw.1, h2.trans hw.2⟩
      · exact hw
theorem openL_len {d d' : Dk} {e : Nat} {o : Option Jn} (h : openL d = (d', e, o)) : d'.bl.length = d.bl.length ∧ d'.bad.length = d.bad.length := by
  have hm := mendL_len (J := jobsL d.n ((openC d).getD [])) (d := d) (m := 0)
  unfold openL at h
  split at h
  · cases h; exact ⟨rfl, rfl⟩
  · split at h
    · cases h; exact ⟨rfl, rfl⟩
    · rename_i l hl
      rw [hl] at hm
      simp only [Option.getD_some] at hm
      split at h
      · cases h; exact ⟨rfl, rfl⟩
      · cases hx : mendL (jobsL d.n l) d 0 with
        | mk d2 x =>
          obtain ⟨m, b⟩ := x
          rw [hx] at h hm
          cases b <;> (cases h; exact hm)
theorem ropenP (w : World) {rb rd : Value} {r d' : Dk} {e : Nat} {o : Option Jn} (hR : RD w rb rd r) (hbl : r.bl.length ≤ 1000000) (hpw : r.pw ≤ 9223372036854775807) (hpw2 : -9223372036854775808 ≤ r.pw) (ho : openL r = (d', e, o)) :
    Calls Try.prog 45 #[.agg #[rb, rd, .int .i64 r.pw, .bool r.tr]] w (Ret fun x w' => Ext w w' ∧ RORes w' x (d', e, o)) := by rw [← ho]; exact ropen_ w hR hbl hpw hpw2
set_option maxHeartbeats 1600000 in
theorem opened_ (w : World) {rb rd : Value} {r : Dk} (hR : RD w rb rd r) (hbl : r.bl.length ≤ 100000) (hbd : r.bad.length ≤ 100000) (hpw : r.pw ≤ 9223372036854775807) (hpw2 : -9223372036854775808 ≤ r.pw) : Calls Try.prog 24 #[.agg #[rb, rd, .int .i64 r.pw, .bool r.tr]] w (Ret fun x w' => Ext w w' ∧ x = .bool true) := by
  have hR00 := hR
  refine calls_E (args := [.agg #[rb, rd, .int .i64 (r.pw), .bool (r.tr)]]) 58 Try.func24 rfl rfl (by simp) ?_
  have hE : Ext w w := Upd.refl w
  refine E.seq ?_
  refine E.regionP rfl ?_
  refine R.box rfl nofun ?_
  intro b1 w1 hb1 hx1 hB1
  replace hb1 := Nat.le_trans hE.size hb1
  replace hR := hR.ext hx1
  replace hE := hE.ext hx1
  replace hB1 : Blk _ b1 31 #[rb, rd, .int .i64 (r.pw), .bool (r.tr)] := hB1
  refine R.assign ?_
  refine R.nil ?_
  refine E.seq ?_
  refine E.regionP rfl ?_
  refine R.loadA t31 hB1 rfl rfl rfl trivial ?_
  refine R.callE1 ent14 (disk_ _ hR (by omega) (by omega)) rfl nofun ?_
  rintro v9 w2 hx2 ⟨b900, vb, vd, rfl, hD, hge0⟩
  have hsz0 := hE.size
  replace hR := hR.ext hx2
  replace hB1 := hB1.ext hx2
  replace hE := hE.ext hx2
  have hge : ∀ x, DB b900 vb vd x → w.heap.size ≤ x := fun x hx => Nat.le_trans hsz0 (hge0 x hx)
  have hq_hR : (∀ x, vblk rb = some x → ¬ DB b900 vb vd x) ∧ (∀ x, vblk rd = some x → ¬ DB b900 vb vd x) := ⟨fun x e h => by have h1 := hge x h; have h2 := hR00.bls.lt x e; omega, fun x e h => by have h1 := hge x h; have h2 := hR00.bds.lt x e; omega⟩
  refine R.assign ?_
  refine R.nil ?_
  refine E.seq ?_
  obtain ⟨d', er, o, ho⟩ : ∃ d' er o, openL r = (d', er, o) := ⟨_, _, _, rfl⟩
  have hlen := openL_len ho
  have hoP := openL_P hR.ok ho
  obtain ⟨hdn, hoP⟩ := hoP
  rcases hoP with ⟨rfl, hn0, j, rfl, hg⟩ | ⟨he0, he1, rfl⟩
  · have hn : 0 < d'.n := by omega
    refine E.regionP rfl ?_
    refine R.move ?_
    refine R.call1 ent39 (openP _ hD hpw ho) rfl ?_
    rintro v12 w3 ⟨hU3, hDn3, ⟨b901, vl, us, rfl, hJ, hpj⟩⟩
    refine ⟨nofun, ?_⟩
    replace hR := hR.upF hU3 hq_hR
    replace hB1 := hB1.upD hU3 hD (by decide)
    replace hE := hE.trans hU3 (fun x hx h => absurd hx (Nat.not_lt.2 (hge x h)))
    clear hD
    have hD := hDn3
    refine R.move ?_
    refine R.extract rfl rfl ?_
    refine R.extract rfl rfl ?_
    refine R.assign ?_
    refine R.assign ?_
    refine R.nil ?_
    refine E.seq ?_
    refine E.regionP rfl ?_
    refine R.loadA t31 hB1 rfl rfl rfl trivial ?_
    refine R.callE1 ent45 (ropenP _ hR (by omega) hpw hpw2 ho) rfl nofun ?_
    rintro v17 w4 hx4 ⟨rb2, rd2, vR, vP, uR, rfl, hG⟩
    replace hR := hR.ext hx4
    replace hD := hD.ext hx4
    replace hJ := hJ.ext hx4
    replace hB1 := hB1.ext hx4
    replace hE := hE.ext hx4
    refine R.move ?_
    refine R.extract rfl rfl ?_
    refine R.extract rfl rfl ?_
    refine R.alloc t93 nofun ?_
    intro b6 w5 hb6 hx5 hB6
    replace hb6 := Nat.le_trans hE.size hb6
    replace hR := hR.ext hx5
    replace hD := hD.ext hx5
    replace hJ := hJ.ext hx5
    replace hG := hG.ext hx5
    replace hB1 := hB1.ext hx5
    replace hE := hE.ext hx5
    replace hB6 : Blk _ b6 93 #[.slice none 0 0, .slice none 0 0, .int .i64 ((0 : Nat) : Int), .bool (false), .slice none 0 0, .slice none 0 0, .int .i64 ((0 : Nat) : Int), .int .i64 ((0 : Nat) : Int), .int .i64 ((0 : Nat) : Int), .bool (false)] := hB6
    refine R.storeA t93 hB6 rfl rfl rfl rfl (ones10 hG.d.bls.one hG.d.bds.one rfl rfl hG.rsl.one hG.pls.one rfl rfl rfl rfl) nofun ?_
    intro w6 hU6 hs6 hN6
    replace hR := hR.upT hU6 hB6 (by decide)
    replace hD := hD.upT hU6 hB6 (by decide)
    replace hJ := hJ.upT hU6 hB6 (by decide)
    replace hG := hG.upT hU6 hB6 (by decide)
    replace hB1 := hB1.upT hU6 hB6 (by decide)
    replace hE := hE.own hU6 hb6
    replace hB6 : Blk _ b6 93 #[rb2, rd2, .int .i64 ((d').pw), .bool ((d').tr), vR, vP, .int .i64 (((firstN j.live) : Nat) : Int), .int .i64 ((j.life : Nat) : Int), .int .i64 ((j.mended : Nat) : Int), .bool (j.down)] := hN6
    clear hN6
    refine R.assign ?_
    refine R.nil ?_
    refine E.seq ?_
    refine E.seq ?_
    refine E.forget [(3, .pointer (some ⟨b900, 0, none⟩)), (4, .pointer (some ⟨b901, 0, none⟩)), (5, .int .i64 ((0 : Nat) : Int)), (6, .pointer (some ⟨b6, 0, none⟩)), (7, .int .i64 ((0 : Nat) : Int))] ⟨rfl, rfl, rfl, rfl, rfl, trivial⟩ (fun e => ?_)
    refine E.regionP rfl ?_
    refine R.move ?_
    refine R.move ?_
    refine R.neq (b := false) rfl rfl (by simp) ?_
    refine R.move ?_
    refine R.gT rfl rfl ?_
    refine R.move ?_
    refine R.gT rfl rfl ?_
    refine R.fld fa93_0 rfl ?_
    refine R.gT rfl rfl ?_
    refine R.loadS t31 hB6 rfl (us := [rb2, rd2, .int .i64 ((d').pw), .bool ((d').tr)]) rfl rfl rfl trivial ?_
    refine R.gT rfl rfl ?_
    refine R.callE2 ent19 (same_ _ hD hG.d (by omega) (by omega)) rfl rfl nofun ?_
    rintro v27 w7 hx7 rfl
    replace hR := hR.ext hx7
    replace hD := hD.ext hx7
    replace hJ := hJ.ext hx7
    replace hG := hG.ext hx7
    replace hB1 := hB1.ext hx7
    replace hB6 := hB6.ext hx7
    replace hE := hE.ext hx7
    refine R.gT rfl rfl ?_
    refine R.not rfl ?_
    refine R.pickF rfl ?_
    refine R.nil ?_
    refine E.condF rfl ?_
    refine E.skip ?_
    refine E.seq ?_
    refine E.seq ?_
    refine E.forget [(3, .pointer (some ⟨b900, 0, none⟩)), (4, .pointer (some ⟨b901, 0, none⟩)), (6, .pointer (some ⟨b6, 0, none⟩)), (7, .int .i64 ((0 : Nat) : Int))] ⟨rfl, rfl, rfl, rfl, trivial⟩ (fun e => ?_)
    refine E.regionP rfl ?_
    refine R.move ?_
    refine R.neq (b := false) rfl rfl (by decide) ?_
    refine R.nil ?_
    refine E.condF rfl ?_
    refine E.skip ?_
    refine E.seq ?_
    refine E.regionP rfl ?_
    refine R.move ?_
    refine R.neqNil (b := true) Try.underlying66 rfl rfl rfl ?_
    refine R.move ?_
    refine R.gT rfl rfl ?_
    refine R.move ?_
    refine R.gT rfl rfl ?_
    refine R.move ?_
    refine R.gT rfl rfl ?_
    refine R.loadA t93 hB6 rfl rfl rfl trivial ?_
    refine R.gT rfl rfl ?_
    refine R.callE3 ent48 (like_ _ hD hJ hG hg hn) rfl rfl rfl nofun ?_
    rintro v56 w8 hx8 rfl
    replace hR := hR.ext hx8
    replace hD := hD.ext hx8
    replace hJ := hJ.ext hx8
    replace hG := hG.ext hx8
    replace hB1 := hB1.ext hx8
    replace hB6 := hB6.ext hx8
    replace hE := hE.ext hx8
    refine R.pickT rfl ?_
    refine R.assign ?_
    refine R.nil ?_
    refine E.ret ?_
    refine ret1 (.bool (true)) rfl rfl ⟨_, rfl, ?_⟩
    exact ⟨hE, rfl⟩
  · refine E.regionP rfl ?_
    refine R.move ?_
    refine R.call1 ent39 (openP _ hD hpw ho) rfl ?_
    rintro v12 w9 ⟨hU9, hDn9, hR12⟩
    refine ⟨nofun, ?_⟩
    replace hR := hR.upF hU9 hq_hR
    replace hB1 := hB1.upD hU9 hD (by decide)
    replace hE := hE.trans hU9 (fun x hx h => absurd hx (Nat.not_lt.2 (hge x h)))
    clear hD
    have hD := hDn9
    replace hR12 : _ = Value.tuple #[.pointer none, .int .i64 ((er : Nat) : Int)] := hR12
    subst hR12
    refine R.move ?_
    refine R.extract rfl rfl ?_
    refine R.extract rfl rfl ?_
    refine R.assign ?_
    refine R.assign ?_
    refine R.nil ?_
    refine E.seq ?_
    refine E.regionP rfl ?_
    refine R.loadA t31 hB1 rfl rfl rfl trivial ?_
    refine R.callE1 ent45 (ropenP _ hR (by omega) hpw hpw2 ho) rfl nofun ?_
    rintro v17 w10 hx10 ⟨rb2, rd2, rfl, hR2⟩
    replace hR := hR.ext hx10
    replace hD := hD.ext hx10
    replace hB1 := hB1.ext hx10
    replace hE := hE.ext hx10
    refine R.move ?_
    refine R.extract rfl rfl ?_
    refine R.extract rfl rfl ?_
    refine R.alloc t93 nofun ?_
    intro b6 w11 hb6 hx11 hB6
    replace hb6 := Nat.le_trans hE.size hb6
    replace hR := hR.ext hx11
    replace hD := hD.ext hx11
    replace hR2 := hR2.ext hx11
    replace hB1 := hB1.ext hx11
    replace hE := hE.ext hx11
    replace hB6 : Blk _ b6 93 #[.slice none 0 0, .slice none 0 0, .int .i64 ((0 : Nat) : Int), .bool (false), .slice none 0 0, .slice none 0 0, .int .i64 ((0 : Nat) : Int), .int .i64 ((0 : Nat) : Int), .int .i64 ((0 : Nat) : Int), .bool (false)] := hB6
    refine R.storeA t93 hB6 rfl rfl rfl rfl (ones10 hR2.bls.one hR2.bds.one rfl rfl rfl rfl rfl rfl rfl rfl) nofun ?_
    intro w12 hU12 hs12 hN12
    replace hR := hR.upT hU12 hB6 (by decide)
    replace hD := hD.upT hU12 hB6 (by decide)
    replace hR2 := hR2.upT hU12 hB6 (by decide)
    replace hB1 := hB1.upT hU12 hB6 (by decide)
    replace hE := hE.own hU12 hb6
    replace hB6 : Blk _ b6 93 #[rb2, rd2, .int .i64 ((d').pw), .bool ((d').tr), .slice none 0 0, .slice none 0 0, .int .i64 ((0 : Nat) : Int), .int .i64 ((0 : Nat) : Int), .int .i64 ((0 : Nat) : Int), .bool (false)] := hN12
    clear hN12
    refine R.assign ?_
    refine R.nil ?_
    refine E.seq ?_
    refine E.seq ?_
    refine E.forget [(3, .pointer (some ⟨b900, 0, none⟩)), (4, .pointer none), (5, .int .i64 ((er : Nat) : Int)), (6, .pointer (some ⟨b6, 0, none⟩)), (7, .int .i64 ((er : Nat) : Int))] ⟨rfl, rfl, rfl, rfl, rfl, trivial⟩ (fun e => ?_)
    refine E.regionP rfl ?_
    refine R.move ?_
    refine R.move ?_
    refine R.neq (b := false) rfl rfl (by simp) ?_
    refine R.move ?_
    refine R.gT rfl rfl ?_
    refine R.move ?_
    refine R.gT rfl rfl ?_
    refine R.fld fa93_0 rfl ?_
    refine R.gT rfl rfl ?_
    refine R.loadS t31 hB6 rfl (us := [rb2, rd2, .int .i64 ((d').pw), .bool ((d').tr)]) rfl rfl rfl trivial ?_
    refine R.gT rfl rfl ?_
    refine R.callE2 ent19 (same_ _ hD hR2 (by omega) (by omega)) rfl rfl nofun ?_
    rintro v27 w13 hx13 rfl
    replace hR := hR.ext hx13
    replace hD := hD.ext hx13
    replace hR2 := hR2.ext hx13
    replace hB1 := hB1.ext hx13
    replace hB6 := hB6.ext hx13
    replace hE := hE.ext hx13
    refine R.gT rfl rfl ?_
    refine R.not rfl ?_
    refine R.pickF rfl ?_
    refine R.nil ?_
    refine E.condF rfl ?_
    refine E.skip ?_
    refine E.seq ?_
    refine E.seq ?_
    refine E.forget [(3, .pointer (some ⟨b900, 0, none⟩)), (4, .pointer none), (6, .pointer (some ⟨b6, 0, none⟩)), (7, .int .i64 ((er : Nat) : Int))] ⟨rfl, rfl, rfl, rfl, trivial⟩ (fun e => ?_)
    refine E.regionP rfl ?_
    refine R.move ?_
    refine R.neq (b := !decide ((((er : Nat) : Int)) = (((0 : Nat) : Int)))) rfl rfl rfl ?_
    refine R.nil ?_
    refine E.cond (b := !decide ((((er : Nat) : Int)) = (((0 : Nat) : Int)))) rfl (fun hc31 => ?_) (fun hc31 => ?_)
    · replace hc31 := nT hc31
      refine E.seq ?_
      refine E.regionP rfl ?_
      refine R.move ?_
      refine R.eqlNil (b := true) Try.underlying66 rfl rfl rfl ?_
      refine R.move ?_
      refine R.gT rfl rfl ?_
      refine R.move ?_
      refine R.gT rfl rfl ?_
      refine R.callE1 ent40 (firstN_ _ (.inl rfl)) rfl nofun ?_
      rintro v36 w14 hx14 rfl
      replace hR := hR.ext hx14
      replace hD := hD.ext hx14
      replace hR2 := hR2.ext hx14
      replace hB1 := hB1.ext hx14
      replace hB6 := hB6.ext hx14
      replace hE := hE.ext hx14
      refine R.gT rfl rfl ?_
      refine R.move ?_
      refine R.gT rfl rfl ?_
      refine R.callE1 ent37 (lastNN_ _ (.inl rfl)) rfl nofun ?_
      rintro v38 w15 hx15 rfl
      replace hR := hR.ext hx15
      replace hD := hD.ext hx15
      replace hR2 := hR2.ext hx15
      replace hB1 := hB1.ext hx15
      replace hB6 := hB6.ext hx15
      replace hE := hE.ext hx15
      refine R.gT rfl rfl ?_
      refine R.addN (m := 0) (n := 0) rfl rfl (by omega) ?_
      refine R.gT rfl rfl ?_
      refine R.move ?_
      refine R.gT rfl rfl ?_
      refine R.callE1 ent34 (mendedN_ _ (.inl rfl)) rfl nofun ?_
      rintro v41 w16 hx16 rfl
      replace hR := hR.ext hx16
      replace hD := hD.ext hx16
      replace hR2 := hR2.ext hx16
      replace hB1 := hB1.ext hx16
      replace hB6 := hB6.ext hx16
      replace hE := hE.ext hx16
      refine R.gT rfl rfl ?_
      refine R.addN (m := (0 + 0)) (n := 0) rfl rfl (by omega) ?_
      refine R.gT rfl rfl ?_
      refine R.eql (b := true) rfl rfl (by decide) ?_
      refine R.pickT rfl ?_
      refine R.move ?_
      refine R.gT rfl rfl ?_
      refine R.move ?_
      refine R.gT rfl rfl ?_
      refine R.callE1 ent35 (roomN_ _ (.inl rfl)) rfl nofun ?_
      rintro v47 w17 hx17 rfl
      replace hR := hR.ext hx17
      replace hD := hD.ext hx17
      replace hR2 := hR2.ext hx17
      replace hB1 := hB1.ext hx17
      replace hB6 := hB6.ext hx17
      replace hE := hE.ext hx17
      refine R.gT rfl rfl ?_
      refine R.eql (b := true) rfl rfl (by decide) ?_
      refine R.pickT rfl ?_
      refine R.assign ?_
      refine R.nil ?_
      refine E.ret ?_
      refine ret1 (.bool (true)) rfl rfl ⟨_, rfl, ?_⟩
      exact ⟨hE, rfl⟩
    · replace hc31 := nF hc31
      exact absurd hc31 (by omega)
end Go.Proofs.Ytlplogplicgfiaa
