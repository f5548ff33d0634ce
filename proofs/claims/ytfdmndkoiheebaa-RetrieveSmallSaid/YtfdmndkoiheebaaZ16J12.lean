import Derived.Test.YtfdmndkoiheebaaZ16N1
import Derived.Test.YtfdmndkoiheebaaZ16G2
import Derived.Test.YtfdmndkoiheebaaZ16Yard4
namespace Go.Proofs.Ytfdmndkoiheebaa
open Go Go.RowKit
theorem rTakeP (w : World) {v : Value} {h b h' e : Int} {us : List Value} {xss l : List (List Int)} (hm : Mat w v us xss) (hl : xss.length < 100000) (hx : ∀ xs ∈ xss, xs.length ≤ 10) (hp : takeR xss h b = (l, h', e)) :
    Calls Try.prog 59 #[.agg #[v, .int .i64 h], .int .i64 b] w (Ret fun r w' => Ext w w' ∧ ∃ u us, r = .tuple #[.agg #[u, .int .i64 h'], .int .i64 e] ∧ MO w' u us l) := by
  have := rTake w (h := h) (b := b) hm hl hx; rw [hp] at this; exact this
section
variable {xss ys : List (List Int)} {H nx n' : Nat} {ord : List Int} {s : Int × Int × Int}
theorem doL_top (h : topL xss s.2.1 ≠ s.1) : doL xss H ord nx s = none := by unfold doL; rw [if_pos (.inr h)]
theorem doL_empty (h : topL xss s.2.1 = 0) : doL xss H ord nx s = none := by
  unfold doL
  by_cases h1 : s.1 < 1
  · rw [if_pos (.inl h1)]
  · rw [if_pos (.inr (by omega))]
theorem doL_shift2 {a : Nat} {t : Int} (hR : RightP xss (H : Int)) (ha : a < xss.length) (hl : 0 < xss[a].length) (ht : t ≠ -1) :
    doL xss H ord nx (xss[a][xss[a].length - 1], (a : Int), t) = if (shiftL xss H a t).2 = 0 then some ((shiftL xss H a t).1, nx) else none := by
  have h1 := hR.pos ha (show xss[a].length - 1 < xss[a].length by omega)
  have hga : xss.getD a [] = xss[a] := by simp [ha]
  rcases (show (t < 0 ∨ (xss.length : Int) ≤ t) ∨ (0 ≤ t ∧ t < xss.length) by omega) with h | h
  · have e1 : (shiftL xss H a t).2 ≠ 0 := by unfold shiftL; rw [if_pos (by omega)]; simp
    rw [if_neg e1]
    simp only [doL]
    rw [topL_at ha hl, if_neg (by omega), if_neg ht, if_pos (by omega)]
  · obtain ⟨c, rfl⟩ : ∃ c : Nat, t = c := ⟨t.toNat, by omega⟩
    have hc : c < xss.length := by omega
    have hgc : xss.getD c [] = xss[c] := by simp [hc]
    by_cases hca : c = a
    · have e1 : (shiftL xss H a c).2 ≠ 0 := by unfold shiftL; rw [if_neg (by omega), if_pos (by omega)]; simp
      rw [if_neg e1]
      simp only [doL]
      rw [topL_at ha hl, if_neg (by omega), if_neg ht, if_pos (by omega)]
    · by_cases hf : xss[c].length = H
      · have e1 : (shiftL xss H a c).2 ≠ 0 := by unfold shiftL; rw [if_neg (by omega), if_neg (by omega), Int.toNat_natCast, Int.toNat_natCast, hga, hgc, if_neg (by omega), if_pos hf]; simp
        rw [if_neg e1]
        simp only [doL]
        rw [topL_at ha hl, if_neg (by omega), if_neg ht, if_pos (by rw [Int.toNat_natCast, hgc]; exact .inr (.inr (.inr hf)))]
      · obtain ⟨q1, q2⟩ := doL_shift (ord := ord) (nx := nx) hR ha hl hc hca hf
        rw [if_pos q1, q2]
theorem doL_take {a : Nat} (hR : RightP xss (H : Int)) (ha : a < xss.length) (hl : 0 < xss[a].length) (b : Int) (hb : xss[a][xss[a].length - 1] = b) :
    doL xss H ord nx (b, (a : Int), -1) = if b = ord.getD nx 0 then some (xss.set a xss[a].dropLast, nx + 1) else none := by
  have h1 := hR.pos ha (show xss[a].length - 1 < xss[a].length by omega)
  have hga : xss.getD a [] = xss[a] := by simp [ha]
  simp only [doL]
  rw [topL_at ha hl, if_neg (by omega), if_pos trivial, Int.toNat_natCast, hga]
  by_cases hq : b = ord.getD nx 0
  · have : nx ≠ ord.length := fun e => by
      rw [e] at hq; simp at hq; omega
    rw [if_pos hq, if_neg (by omega)]
  · rw [if_neg hq, if_pos (.inr (fun e => hq e.symm))]
theorem doL_kind (h : doL xss H ord nx s = some (ys, n')) : (s.2.2 = -1 ∧ n' = nx + 1) ∨ (0 ≤ s.2.2 ∧ n' = nx) := by
  unfold doL at h
  split at h
  · cases h
  · split at h
    · split at h
      · cases h
      · rename_i h2 _; obtain ⟨rfl, rfl⟩ := Prod.mk.inj (Option.some.inj h); exact .inl ⟨h2, rfl⟩
    · split at h
      · cases h
      · obtain ⟨rfl, rfl⟩ := Prod.mk.inj (Option.some.inj h); exact .inr ⟨by omega, rfl⟩
theorem doL_right (hR : RightP xss (H : Int)) (h : doL xss H ord nx s = some (ys, n')) : RightP ys (H : Int) := by
  obtain ⟨b, f, t⟩ := s
  have hb : ¬ (b < 1 ∨ topL xss f ≠ b) := fun hc => by simp only [doL] at h; rw [if_pos hc] at h; cases h
  obtain ⟨a, ha, hl, rfl, hlast⟩ := topL_pos (show topL xss f = b by omega) (by omega)
  by_cases ht : t = -1
  · subst ht
    rw [doL_take hR ha hl _ hlast] at h
    split at h
    · obtain ⟨rfl, rfl⟩ := Prod.mk.inj (Option.some.inj h)
      have := (hR.taken ha (show xss[a].length - 1 < xss[a].length by omega) (by omega)).1
      rw [List.dropLast_eq_take]; exact this
    · cases h
  · rw [← hlast, doL_shift2 hR ha hl ht] at h
    split at h
    · rename_i hs
      obtain ⟨rfl, rfl⟩ := Prod.mk.inj (Option.some.inj h)
      exact hR.shift hs
    · cases h
end
def RDone (w' : World) (r : Value) (o : Option (List (List Int) × Nat)) (H : Nat) : Prop :=
  ∃ u us h, r = .tuple #[.agg #[u, .int .i64 h], .bool o.isSome] ∧ u.oneCell' = true ∧ ∀ ys n', o = some (ys, n') → h = (H : Int) ∧ MO w' u us ys
set_option maxHeartbeats 1600000 in
theorem rDone (w : World) {v : Value} {H nx : Nat} {us : List Value} {xss : List (List Int)} {ord : List Int} {b f t : Int} (hm : Mat w v us xss) (hR : RightP xss (H : Int)) :
    Calls Try.prog 98 #[.agg #[v, .int .i64 H], .int .i64 (ord.getD nx 0), .agg #[.int .i64 b, .int .i64 f, .int .i64 t]] w (Ret fun r w' => Ext w w' ∧ RDone w' r (doL xss H ord nx (b, f, t)) H) := by
  have hl5 : xss.length < 100000 := by have := hR.2.2.2.1; omega
  have hx10 : ∀ xs ∈ xss, xs.length ≤ 10 := fun xs h => by have := sum_lengths hR xs h; omega
  rcases (show f < 0 ∨ (0 ≤ f ∧ (xss.length : Int) ≤ f) ∨ (0 ≤ f ∧ f < xss.length) by omega) with hf | hf | hf
  · skip
    refine calls_E (args := [.agg #[v, .int .i64 H], .int .i64 (ord.getD nx 0), .agg #[.int .i64 b, .int .i64 (f), .int .i64 (t)]]) 81 Try.func98 rfl rfl (by simp) ?_
    have hE : Ext w w := Upd.refl w
    refine E.seq ?_
    refine E.regionP rfl ?_
    refine R.box rfl nofun ?_
    intro b3 w1 hb3 hx1 hB3
    replace hb3 := Nat.le_trans hE.size hb3
    replace hE := hE.ext hx1
    replace hB3 : Blk _ b3 54 #[v, .int .i64 H] := hB3
    refine R.box rfl nofun ?_
    intro b5 w2 hb5 hx2 hB5
    replace hb5 := Nat.le_trans hE.size hb5
    replace hB3 := hB3.ext hx2
    replace hE := hE.ext hx2
    replace hB5 : Blk _ b5 117 #[.int .i64 b, .int .i64 (f), .int .i64 (t)] := hB5
    refine R.alloc t54 nofun ?_
    intro b6 w3 hb6 hx3 hB6
    have ne3_6 : b3 ≠ b6 := by have := hB3.lt; omega
    replace hb6 := Nat.le_trans hE.size hb6
    replace hB3 := hB3.ext hx3
    replace hB5 := hB5.ext hx3
    replace hE := hE.ext hx3
    replace hB6 : Blk _ b6 54 #[.slice none 0 0, .int .i64 0] := hB6
    refine R.assign ?_
    refine R.nil ?_
    refine E.seq ?_
    refine E.seq ?_
    refine E.regionP rfl ?_
    refine R.fld fa117_1 rfl ?_
    refine R.loadB t3 hB5 rfl rfl rfl trivial ?_
    refine R.lss (b := true) rfl rfl (decide_eq_true (hf)) ?_
    refine R.move ?_
    refine R.gF rfl rfl rfl ?_
    refine R.gF rfl rfl rfl ?_
    refine R.gF rfl rfl rfl ?_
    refine R.gF rfl rfl rfl ?_
    refine R.gF rfl rfl rfl ?_
    refine R.gF rfl rfl rfl ?_
    refine R.pickT rfl ?_
    refine R.nil ?_
    refine E.condT rfl ?_
    refine E.seq ?_
    refine E.regionP rfl ?_
    refine R.loadA t54 hB3 rfl rfl rfl trivial ?_
    refine R.storeA t54 hB6 rfl rfl rfl rfl (ones2 hm.row.one rfl) nofun ?_
    intro w4 hU4 hs4 hN4
    replace hB3 := hB3.up hU4 (fun h => ne3_6 h)
    replace hB5 := hB5.upT hU4 hB6 (by decide)
    replace hE := hE.own hU4 hb6
    replace hB6 : Blk _ b6 54 #[v, .int .i64 H] := hN4
    clear hN4
    refine R.assign ?_
    refine R.nil ?_
    refine E.ret ?_
    exact retA1 (.bool false) t54 hB6 rfl rfl rfl rfl ⟨_, rfl, hE, by rw [doL_empty (topL_out (show f < 0 ∨ (xss.length : Int) ≤ f by omega))]; exact ⟨v, us, H, rfl, hm.row.one, nofun⟩⟩
  · skip
    refine calls_E (args := [.agg #[v, .int .i64 H], .int .i64 (ord.getD nx 0), .agg #[.int .i64 b, .int .i64 (f), .int .i64 (t)]]) 81 Try.func98 rfl rfl (by simp) ?_
    have hE : Ext w w := Upd.refl w
    refine E.seq ?_
    refine E.regionP rfl ?_
    refine R.box rfl nofun ?_
    intro b3 w1 hb3 hx1 hB3
    replace hb3 := Nat.le_trans hE.size hb3
    replace hE := hE.ext hx1
    replace hB3 : Blk _ b3 54 #[v, .int .i64 H] := hB3
    refine R.box rfl nofun ?_
    intro b5 w2 hb5 hx2 hB5
    replace hb5 := Nat.le_trans hE.size hb5
    replace hB3 := hB3.ext hx2
    replace hE := hE.ext hx2
    replace hB5 : Blk _ b5 117 #[.int .i64 b, .int .i64 (f), .int .i64 (t)] := hB5
    refine R.alloc t54 nofun ?_
    intro b6 w3 hb6 hx3 hB6
    have ne3_6 : b3 ≠ b6 := by have := hB3.lt; omega
    replace hb6 := Nat.le_trans hE.size hb6
    replace hB3 := hB3.ext hx3
    replace hB5 := hB5.ext hx3
    replace hE := hE.ext hx3
    replace hB6 : Blk _ b6 54 #[.slice none 0 0, .int .i64 0] := hB6
    refine R.assign ?_
    refine R.nil ?_
    refine E.seq ?_
    refine E.seq ?_
    refine E.regionP rfl ?_
    refine R.fld fa117_1 rfl ?_
    refine R.loadB t3 hB5 rfl rfl rfl trivial ?_
    refine R.lss (b := false) rfl rfl (decide_eq_false (by omega)) ?_
    refine R.move ?_
    refine R.gT rfl rfl ?_
    refine R.fld fa117_1 rfl ?_
    refine R.gT rfl rfl ?_
    refine R.loadB t3 hB5 rfl rfl rfl trivial ?_
    refine R.gT rfl rfl ?_
    refine R.fld fa54_0 rfl ?_
    refine R.gT rfl rfl ?_
    refine R.loadB t22 hB3 rfl rfl rfl trivial ?_
    refine R.gT rfl rfl ?_
    refine R.len Try.underlying22 hm.row rfl ?_
    refine R.gT rfl rfl ?_
    refine R.geq (b := true) rfl rfl (decide_eq_true (by omega)) ?_
    refine R.pickF rfl ?_
    refine R.nil ?_
    refine E.condT rfl ?_
    refine E.seq ?_
    refine E.regionP rfl ?_
    refine R.loadA t54 hB3 rfl rfl rfl trivial ?_
    refine R.storeA t54 hB6 rfl rfl rfl rfl (ones2 hm.row.one rfl) nofun ?_
    intro w4 hU4 hs4 hN4
    replace hB3 := hB3.up hU4 (fun h => ne3_6 h)
    replace hB5 := hB5.upT hU4 hB6 (by decide)
    replace hE := hE.own hU4 hb6
    replace hB6 : Blk _ b6 54 #[v, .int .i64 H] := hN4
    clear hN4
    refine R.assign ?_
    refine R.nil ?_
    refine E.ret ?_
    exact retA1 (.bool false) t54 hB6 rfl rfl rfl rfl ⟨_, rfl, hE, by rw [doL_empty (topL_out (show f < 0 ∨ (xss.length : Int) ≤ f by omega))]; exact ⟨v, us, H, rfl, hm.row.one, nofun⟩⟩
  · skip
    obtain ⟨a, rfl⟩ : ∃ a : Nat, f = a := ⟨f.toNat, by omega⟩
    have ha : a < xss.length := by omega
    have hal := sum_lengths hR _ (List.getElem_mem ha)
    rcases Nat.eq_zero_or_pos xss[a].length with hz | hz
    · skip
      refine calls_E (args := [.agg #[v, .int .i64 H], .int .i64 (ord.getD nx 0), .agg #[.int .i64 b, .int .i64 ((a : Nat)), .int .i64 (t)]]) 81 Try.func98 rfl rfl (by simp) ?_
      have hE : Ext w w := Upd.refl w
      refine E.seq ?_
      refine E.regionP rfl ?_
      refine R.box rfl nofun ?_
      intro b3 w1 hb3 hx1 hB3
      replace hb3 := Nat.le_trans hE.size hb3
      replace hE := hE.ext hx1
      replace hB3 : Blk _ b3 54 #[v, .int .i64 H] := hB3
      refine R.box rfl nofun ?_
      intro b5 w2 hb5 hx2 hB5
      replace hb5 := Nat.le_trans hE.size hb5
      replace hB3 := hB3.ext hx2
      replace hE := hE.ext hx2
      replace hB5 : Blk _ b5 117 #[.int .i64 b, .int .i64 ((a : Nat)), .int .i64 (t)] := hB5
      refine R.alloc t54 nofun ?_
      intro b6 w3 hb6 hx3 hB6
      have ne3_6 : b3 ≠ b6 := by have := hB3.lt; omega
      replace hb6 := Nat.le_trans hE.size hb6
      replace hB3 := hB3.ext hx3
      replace hB5 := hB5.ext hx3
      replace hE := hE.ext hx3
      replace hB6 : Blk _ b6 54 #[.slice none 0 0, .int .i64 0] := hB6
      refine R.assign ?_
      refine R.nil ?_
      refine E.seq ?_
      refine E.seq ?_
      refine E.regionP rfl ?_
      refine R.fld fa117_1 rfl ?_
      refine R.loadB t3 hB5 rfl rfl rfl trivial ?_
      refine R.lss (b := false) rfl rfl (decide_eq_false (by omega)) ?_
      refine R.move ?_
      refine R.gT rfl rfl ?_
      refine R.fld fa117_1 rfl ?_
      refine R.gT rfl rfl ?_
      refine R.loadB t3 hB5 rfl rfl rfl trivial ?_
      refine R.gT rfl rfl ?_
      refine R.fld fa54_0 rfl ?_
      refine R.gT rfl rfl ?_
      refine R.loadB t22 hB3 rfl rfl rfl trivial ?_
      refine R.gT rfl rfl ?_
      refine R.len Try.underlying22 hm.row rfl ?_
      refine R.gT rfl rfl ?_
      refine R.geq (b := false) rfl rfl (decide_eq_false (by omega)) ?_
      refine R.pickF rfl ?_
      refine R.nil ?_
      refine E.condF rfl ?_
      refine E.skip ?_
      refine E.seq ?_
      refine E.regionP rfl ?_
      refine R.fld fa54_0 rfl ?_
      refine R.loadB t22 hB3 rfl rfl rfl trivial ?_
      refine R.fld fa117_1 rfl ?_
      refine R.loadB t3 hB5 rfl rfl rfl trivial ?_
      refine R.ix (m := a) Try.underlying22 t35 (by decide) hm.row rfl rfl ha ?_
      obtain ⟨u30, hu30, hr30⟩ := hm.get a (by omega)
      refine R.ld t35 (hm.row.ext hE) rfl hu30 rfl (fun _ _ => trivial) ?_
      refine R.len Try.underlying35 hr30 rfl ?_
      refine R.assign ?_
      refine R.nil ?_
      refine E.seq ?_
      refine E.seq ?_
      refine E.regionW allS [] mixed rfl (by kernel_rfl) ?_
      intro w4 hx4 hh4
      replace hB3 := hB3.ext hx4
      replace hB5 := hB5.ext hx4
      replace hB6 := hB6.ext hx4
      replace hE := hE.ext hx4
      refine R.move ?_
      refine R.eql (b := true) rfl rfl (by simp [hz]) ?_
      refine R.move ?_
      refine R.gF rfl rfl rfl ?_
      refine R.gF rfl rfl rfl ?_
      refine R.gF rfl rfl rfl ?_
      refine R.gF rfl rfl rfl ?_
      refine R.gF rfl rfl rfl ?_
      refine R.gF rfl rfl rfl ?_
      refine R.gF rfl rfl rfl ?_
      refine R.gF rfl rfl rfl ?_
      refine R.gF rfl rfl rfl ?_
      refine R.gF rfl rfl rfl ?_
      refine R.gF rfl rfl rfl ?_
      refine R.gF rfl rfl rfl ?_
      refine R.gF rfl rfl rfl ?_
      refine R.pickT rfl ?_
      refine R.nil ?_
      refine E.condT rfl ?_
      refine E.seq ?_
      refine E.regionP rfl ?_
      refine R.loadA t54 hB3 rfl rfl rfl trivial ?_
      refine R.storeA t54 hB6 rfl rfl rfl rfl (ones2 hm.row.one rfl) nofun ?_
      intro w5 hU5 hs5 hN5
      replace hB3 := hB3.up hU5 (fun h => ne3_6 h)
      replace hB5 := hB5.upT hU5 hB6 (by decide)
      replace hE := hE.own hU5 hb6
      replace hB6 : Blk _ b6 54 #[v, .int .i64 H] := hN5
      clear hN5
      refine R.assign ?_
      refine R.nil ?_
      refine E.ret ?_
      exact retA1 (.bool false) t54 hB6 rfl rfl rfl rfl ⟨_, rfl, hE, by rw [doL_empty (topL_empty ha hz)]; exact ⟨v, us, H, rfl, hm.row.one, nofun⟩⟩
    · skip
      have htop := topL_at ha hz
      rcases Decidable.em (xss[a][xss[a].length - 1] = b) with hb | hb
      · skip
        obtain ⟨k, hk⟩ : ∃ k, k + 1 = xss[a].length := ⟨xss[a].length - 1, by omega⟩
        have hkl : k < xss[a].length := by omega
        rcases Decidable.em (t = -1) with rfl | ht
        · skip
          rcases Decidable.em (b = ord.getD nx 0) with hq | hq
          · skip
            have htk : takeR xss H b = (xss.set a xss[a].dropLast, (H : Int), 0) := by
              have e1 : xss[a][k] = b := by rw [← hb]; congr 1; omega
              rw [← e1, hR.take_top ha hkl hk, List.dropLast_eq_take]
              congr 3; omega
            refine calls_E (args := [.agg #[v, .int .i64 H], .int .i64 (ord.getD nx 0), .agg #[.int .i64 b, .int .i64 ((a : Nat)), .int .i64 (-1)]]) 81 Try.func98 rfl rfl (by simp) ?_
            have hE : Ext w w := Upd.refl w
            refine E.seq ?_
            refine E.regionP rfl ?_
            refine R.box rfl nofun ?_
            intro b3 w1 hb3 hx1 hB3
            replace hb3 := Nat.le_trans hE.size hb3
            replace hE := hE.ext hx1
            replace hB3 : Blk _ b3 54 #[v, .int .i64 H] := hB3
            refine R.box rfl nofun ?_
            intro b5 w2 hb5 hx2 hB5
            replace hb5 := Nat.le_trans hE.size hb5
            replace hB3 := hB3.ext hx2
            replace hE := hE.ext hx2
            replace hB5 : Blk _ b5 117 #[.int .i64 b, .int .i64 ((a : Nat)), .int .i64 (-1)] := hB5
            refine R.alloc t54 nofun ?_
            intro b6 w3 hb6 hx3 hB6
            have ne3_6 : b3 ≠ b6 := by have := hB3.lt; omega
            replace hb6 := Nat.le_trans hE.size hb6
            replace hB3 := hB3.ext hx3
            replace hB5 := hB5.ext hx3
            replace hE := hE.ext hx3
            replace hB6 : Blk _ b6 54 #[.slice none 0 0, .int .i64 0] := hB6
            refine R.assign ?_
            refine R.nil ?_
            refine E.seq ?_
            refine E.seq ?_
            refine E.regionP rfl ?_
            refine R.fld fa117_1 rfl ?_
            refine R.loadB t3 hB5 rfl rfl rfl trivial ?_
            refine R.lss (b := false) rfl rfl (decide_eq_false (by omega)) ?_
            refine R.move ?_
            refine R.gT rfl rfl ?_
            refine R.fld fa117_1 rfl ?_
            refine R.gT rfl rfl ?_
            refine R.loadB t3 hB5 rfl rfl rfl trivial ?_
            refine R.gT rfl rfl ?_
            refine R.fld fa54_0 rfl ?_
            refine R.gT rfl rfl ?_
            refine R.loadB t22 hB3 rfl rfl rfl trivial ?_
            refine R.gT rfl rfl ?_
            refine R.len Try.underlying22 hm.row rfl ?_
            refine R.gT rfl rfl ?_
            refine R.geq (b := false) rfl rfl (decide_eq_false (by omega)) ?_
            refine R.pickF rfl ?_
            refine R.nil ?_
            refine E.condF rfl ?_
            refine E.skip ?_
            refine E.seq ?_
            refine E.regionP rfl ?_
            refine R.fld fa54_0 rfl ?_
            refine R.loadB t22 hB3 rfl rfl rfl trivial ?_
            refine R.fld fa117_1 rfl ?_
            refine R.loadB t3 hB5 rfl rfl rfl trivial ?_
            refine R.ix (m := a) Try.underlying22 t35 (by decide) hm.row rfl rfl ha ?_
            obtain ⟨u30, hu30, hr30⟩ := hm.get a (by omega)
            refine R.ld t35 (hm.row.ext hE) rfl hu30 rfl (fun _ _ => trivial) ?_
            refine R.len Try.underlying35 hr30 rfl ?_
            refine R.assign ?_
            refine R.nil ?_
            refine E.seq ?_
            refine E.seq ?_
            refine E.regionW allS [] mixed rfl (by kernel_rfl) ?_
            intro w4 hx4 hh4
            replace hB3 := hB3.ext hx4
            replace hB5 := hB5.ext hx4
            replace hB6 := hB6.ext hx4
            replace hE := hE.ext hx4
            refine R.move ?_
            refine R.eql (b := false) rfl rfl (decide_eq_false (by omega)) ?_
            refine R.move ?_
            refine R.gT rfl rfl ?_
            refine R.fld fa54_0 rfl ?_
            refine R.gT rfl rfl ?_
            refine R.loadB t22 hB3 rfl rfl rfl trivial ?_
            refine R.gT rfl rfl ?_
            refine R.fld fa117_1 rfl ?_
            refine R.gT rfl rfl ?_
            refine R.loadB t3 hB5 rfl rfl rfl trivial ?_
            refine R.gT rfl rfl ?_
            refine R.ix (m := a) Try.underlying22 t35 (by decide) hm.row rfl rfl ha ?_
            refine R.gT rfl rfl ?_
            obtain ⟨u40, hu40, hr40⟩ := hm.get a (by omega)
            refine R.ld t35 (hm.row.ext hE) rfl hu40 rfl (fun _ _ => trivial) ?_
            refine R.gT rfl rfl ?_
            refine R.move ?_
            refine R.gT rfl rfl ?_
            refine R.subN (m := xss[a].length) (n := 1) rfl rfl (by omega) (by omega) ?_
            refine R.gT rfl rfl ?_
            refine R.ix (m := xss[a].length - 1) Try.underlying35 t3 (by decide) hr40 rfl rfl (by omega) ?_
            refine R.gT rfl rfl ?_
            refine R.ldE (j := xss[a].length - 1) t3 hr40 hE rfl (int_at (by omega)) rfl (fun _ _ => trivial) ?_
            refine R.gT rfl rfl ?_
            refine R.fld fa117_0 rfl ?_
            refine R.gT rfl rfl ?_
            refine R.loadB t3 hB5 rfl rfl rfl trivial ?_
            refine R.gT rfl rfl ?_
            refine R.neq (b := false) rfl rfl (by simp [hb]) ?_
            refine R.pickF rfl ?_
            refine R.nil ?_
            refine E.condF rfl ?_
            refine E.skip ?_
            refine E.seq ?_
            refine E.seq ?_
            refine E.regionP rfl ?_
            refine R.fld fa117_2 rfl ?_
            refine R.loadB t3 hB5 rfl rfl rfl trivial ?_
            refine R.eql (b := true) rfl rfl (by simp) ?_
            refine R.nil ?_
            refine E.condT rfl ?_
            refine E.seq ?_
            refine E.seq ?_
            refine E.regionP rfl ?_
            refine R.fld fa117_0 rfl ?_
            refine R.loadB t3 hB5 rfl rfl rfl trivial ?_
            refine R.move ?_
            refine R.neq (b := false) rfl rfl (by simp [hq]) ?_
            refine R.nil ?_
            refine E.condF rfl ?_
            refine E.skip ?_
            refine E.seq ?_
            refine E.regionP rfl ?_
            refine R.loadA t54 hB3 rfl rfl rfl trivial ?_
            refine R.fld fa117_0 rfl ?_
            refine R.loadB t3 hB5 rfl rfl rfl trivial ?_
            refine R.callE2 ent59 (rTakeP _ (hm.ext hE) hl5 hx10 htk) rfl rfl nofun ?_
            rintro v62 w5 hx5 ⟨u62, us62, rfl, hM62⟩
            replace hB3 := hB3.ext hx5
            replace hB5 := hB5.ext hx5
            replace hB6 := hB6.ext hx5
            replace hE := hE.ext hx5
            refine R.move ?_
            refine R.extract rfl rfl ?_
            refine R.extract rfl rfl ?_
            refine R.alloc t54 nofun ?_
            intro b9 w6 hb9 hx6 hB9
            have ne3_9 : b3 ≠ b9 := by have := hB3.lt; omega
            have ne6_9 : b6 ≠ b9 := by have := hB6.lt; omega
            replace hb9 := Nat.le_trans hE.size hb9
            replace hM62 := hM62.ext hx6
            replace hB3 := hB3.ext hx6
            replace hB5 := hB5.ext hx6
            replace hB6 := hB6.ext hx6
            replace hE := hE.ext hx6
            replace hB9 : Blk _ b9 54 #[.slice none 0 0, .int .i64 0] := hB9
            refine R.storeA t54 hB9 rfl rfl rfl rfl (ones2 hM62.row.one rfl) nofun ?_
            intro w7 hU7 hs7 hN7
            replace hM62 := hM62.upT hU7 hB9 (by decide)
            replace hB3 := hB3.up hU7 (fun h => ne3_9 h)
            replace hB5 := hB5.upT hU7 hB9 (by decide)
            replace hB6 := hB6.up hU7 (fun h => ne6_9 h)
            replace hE := hE.own hU7 hb9
            replace hB9 : Blk _ b9 54 #[u62, .int .i64 H] := hN7
            clear hN7
            refine R.assign ?_
            refine R.nil ?_
            refine E.seq ?_
            refine E.regionP rfl ?_
            refine R.loadA t54 hB9 rfl rfl rfl trivial ?_
            refine R.move ?_
            refine R.eql (b := true) rfl rfl (by simp) ?_
            refine R.storeA t54 hB6 rfl rfl rfl rfl (ones2 hM62.row.one rfl) nofun ?_
            intro w8 hU8 hs8 hN8
            replace hM62 := hM62.upT hU8 hB6 (by decide)
            replace hB3 := hB3.up hU8 (fun h => ne3_6 h)
            replace hB5 := hB5.upT hU8 hB6 (by decide)
            replace hB9 := hB9.up hU8 (fun h => ne6_9 h.symm)
            replace hE := hE.own hU8 hb6
            replace hB6 : Blk _ b6 54 #[u62, .int .i64 H] := hN8
            clear hN8
            refine R.assign ?_
            refine R.nil ?_
            refine E.ret ?_
            exact retA1 (.bool true) t54 hB6 rfl rfl rfl rfl ⟨_, rfl, hE, by rw [doL_take hR ha hz b hb, if_pos hq]; exact ⟨u62, us62, H, rfl, hM62.row.one, fun ys n' e => by obtain ⟨rfl, rfl⟩ := Prod.mk.inj (Option.some.inj e); exact ⟨rfl, hM62⟩⟩⟩
          · skip
            refine calls_E (args := [.agg #[v, .int .i64 H], .int .i64 (ord.getD nx 0), .agg #[.int .i64 b, .int .i64 ((a : Nat)), .int .i64 (-1)]]) 81 Try.func98 rfl rfl (by simp) ?_
            have hE : Ext w w := Upd.refl w
            refine E.seq ?_
            refine E.regionP rfl ?_
            refine R.box rfl nofun ?_
            intro b3 w1 hb3 hx1 hB3
            replace hb3 := Nat.le_trans hE.size hb3
            replace hE := hE.ext hx1
            replace hB3 : Blk _ b3 54 #[v, .int .i64 H] := hB3
            refine R.box rfl nofun ?_
            intro b5 w2 hb5 hx2 hB5
            replace hb5 := Nat.le_trans hE.size hb5
            replace hB3 := hB3.ext hx2
            replace hE := hE.ext hx2
            replace hB5 : Blk _ b5 117 #[.int .i64 b, .int .i64 ((a : Nat)), .int .i64 (-1)] := hB5
            refine R.alloc t54 nofun ?_
            intro b6 w3 hb6 hx3 hB6
            have ne3_6 : b3 ≠ b6 := by have := hB3.lt; omega
            replace hb6 := Nat.le_trans hE.size hb6
            replace hB3 := hB3.ext hx3
            replace hB5 := hB5.ext hx3
            replace hE := hE.ext hx3
            replace hB6 : Blk _ b6 54 #[.slice none 0 0, .int .i64 0] := hB6
            refine R.assign ?_
            refine R.nil ?_
            refine E.seq ?_
            refine E.seq ?_
            refine E.regionP rfl ?_
            refine R.fld fa117_1 rfl ?_
            refine R.loadB t3 hB5 rfl rfl rfl trivial ?_
            refine R.lss (b := false) rfl rfl (decide_eq_false (by omega)) ?_
            refine R.move ?_
            refine R.gT rfl rfl ?_
            refine R.fld fa117_1 rfl ?_
            refine R.gT rfl rfl ?_
            refine R.loadB t3 hB5 rfl rfl rfl trivial ?_
            refine R.gT rfl rfl ?_
            refine R.fld fa54_0 rfl ?_
            refine R.gT rfl rfl ?_
            refine R.loadB t22 hB3 rfl rfl rfl trivial ?_
            refine R.gT rfl rfl ?_
            refine R.len Try.underlying22 hm.row rfl ?_
            refine R.gT rfl rfl ?_
            refine R.geq (b := false) rfl rfl (decide_eq_false (by omega)) ?_
            refine R.pickF rfl ?_
            refine R.nil ?_
            refine E.condF rfl ?_
            refine E.skip ?_
            refine E.seq ?_
            refine E.regionP rfl ?_
            refine R.fld fa54_0 rfl ?_
            refine R.loadB t22 hB3 rfl rfl rfl trivial ?_
            refine R.fld fa117_1 rfl ?_
            refine R.loadB t3 hB5 rfl rfl rfl trivial ?_
            refine R.ix (m := a) Try.underlying22 t35 (by decide) hm.row rfl rfl ha ?_
            obtain ⟨u30, hu30, hr30⟩ := hm.get a (by omega)
            refine R.ld t35 (hm.row.ext hE) rfl hu30 rfl (fun _ _ => trivial) ?_
            refine R.len Try.underlying35 hr30 rfl ?_
            refine R.assign ?_
            refine R.nil ?_
            refine E.seq ?_
            refine E.seq ?_
            refine E.regionW allS [] mixed rfl (by kernel_rfl) ?_
            intro w4 hx4 hh4
            replace hB3 := hB3.ext hx4
            replace hB5 := hB5.ext hx4
            replace hB6 := hB6.ext hx4
            replace hE := hE.ext hx4
            refine R.move ?_
            refine R.eql (b := false) rfl rfl (decide_eq_false (by omega)) ?_
            refine R.move ?_
            refine R.gT rfl rfl ?_
            refine R.fld fa54_0 rfl ?_
            refine R.gT rfl rfl ?_
            refine R.loadB t22 hB3 rfl rfl rfl trivial ?_
            refine R.gT rfl rfl ?_
            refine R.fld fa117_1 rfl ?_
            refine R.gT rfl rfl ?_
            refine R.loadB t3 hB5 rfl rfl rfl trivial ?_
            refine R.gT rfl rfl ?_
            refine R.ix (m := a) Try.underlying22 t35 (by decide) hm.row rfl rfl ha ?_
            refine R.gT rfl rfl ?_
            obtain ⟨u40, hu40, hr40⟩ := hm.get a (by omega)
            refine R.ld t35 (hm.row.ext hE) rfl hu40 rfl (fun _ _ => trivial) ?_
            refine R.gT rfl rfl ?_
            refine R.move ?_
            refine R.gT rfl rfl ?_
            refine R.subN (m := xss[a].length) (n := 1) rfl rfl (by omega) (by omega) ?_
            refine R.gT rfl rfl ?_
            refine R.ix (m := xss[a].length - 1) Try.underlying35 t3 (by decide) hr40 rfl rfl (by omega) ?_
            refine R.gT rfl rfl ?_
            refine R.ldE (j := xss[a].length - 1) t3 hr40 hE rfl (int_at (by omega)) rfl (fun _ _ => trivial) ?_
            refine R.gT rfl rfl ?_
            refine R.fld fa117_0 rfl ?_
            refine R.gT rfl rfl ?_
            refine R.loadB t3 hB5 rfl rfl rfl trivial ?_
            refine R.gT rfl rfl ?_
            refine R.neq (b := false) rfl rfl (by simp [hb]) ?_
            refine R.pickF rfl ?_
            refine R.nil ?_
            refine E.condF rfl ?_
            refine E.skip ?_
            refine E.seq ?_
            refine E.seq ?_
            refine E.regionP rfl ?_
            refine R.fld fa117_2 rfl ?_
            refine R.loadB t3 hB5 rfl rfl rfl trivial ?_
            refine R.eql (b := true) rfl rfl (by simp) ?_
            refine R.nil ?_
            refine E.condT rfl ?_
            refine E.seq ?_
            refine E.seq ?_
            refine E.regionP rfl ?_
            refine R.fld fa117_0 rfl ?_
            refine R.loadB t3 hB5 rfl rfl rfl trivial ?_
            refine R.move ?_
            refine R.neq (b := true) rfl rfl (by simpa using hq) ?_
            refine R.nil ?_
            refine E.condT rfl ?_
            refine E.seq ?_
            refine E.regionP rfl ?_
            refine R.loadA t54 hB3 rfl rfl rfl trivial ?_
            refine R.storeA t54 hB6 rfl rfl rfl rfl (ones2 hm.row.one rfl) nofun ?_
            intro w5 hU5 hs5 hN5
            replace hB3 := hB3.up hU5 (fun h => ne3_6 h)
            replace hB5 := hB5.upT hU5 hB6 (by decide)
            replace hE := hE.own hU5 hb6
            replace hB6 : Blk _ b6 54 #[v, .int .i64 H] := hN5
            clear hN5
            refine R.assign ?_
            refine R.nil ?_
            refine E.ret ?_
            exact retA1 (.bool false) t54 hB6 rfl rfl rfl rfl ⟨_, rfl, hE, by rw [doL_take hR ha hz b hb, if_neg hq]; exact ⟨v, us, H, rfl, hm.row.one, nofun⟩⟩
        · skip
          rcases Decidable.em ((shiftL xss H a t).2 = 0) with hs | hs
          · skip
            refine calls_E (args := [.agg #[v, .int .i64 H], .int .i64 (ord.getD nx 0), .agg #[.int .i64 b, .int .i64 ((a : Nat)), .int .i64 (t)]]) 81 Try.func98 rfl rfl (by simp) ?_
            have hE : Ext w w := Upd.refl w
            refine E.seq ?_
            refine E.regionP rfl ?_
            refine R.box rfl nofun ?_
            intro b3 w1 hb3 hx1 hB3
            replace hb3 := Nat.le_trans hE.size hb3
            replace hE := hE.ext hx1
            replace hB3 : Blk _ b3 54 #[v, .int .i64 H] := hB3
            refine R.box rfl nofun ?_
            intro b5 w2 hb5 hx2 hB5
            replace hb5 := Nat.le_trans hE.size hb5
            replace hB3 := hB3.ext hx2
            replace hE := hE.ext hx2
            replace hB5 : Blk _ b5 117 #[.int .i64 b, .int .i64 ((a : Nat)), .int .i64 (t)] := hB5
            refine R.alloc t54 nofun ?_
            intro b6 w3 hb6 hx3 hB6
            have ne3_6 : b3 ≠ b6 := by have := hB3.lt; omega
            replace hb6 := Nat.le_trans hE.size hb6
            replace hB3 := hB3.ext hx3
            replace hB5 := hB5.ext hx3
            replace hE := hE.ext hx3
            replace hB6 : Blk _ b6 54 #[.slice none 0 0, .int .i64 0] := hB6
            refine R.assign ?_
            refine R.nil ?_
            refine E.seq ?_
            refine E.seq ?_
            refine E.regionP rfl ?_
            refine R.fld fa117_1 rfl ?_
            refine R.loadB t3 hB5 rfl rfl rfl trivial ?_
            refine R.lss (b := false) rfl rfl (decide_eq_false (by omega)) ?_
            refine R.move ?_
            refine R.gT rfl rfl ?_
            refine R.fld fa117_1 rfl ?_
            refine R.gT rfl rfl ?_
            refine R.loadB t3 hB5 rfl rfl rfl trivial ?_
            refine R.gT rfl rfl ?_
            refine R.fld fa54_0 rfl ?_
            refine R.gT rfl rfl ?_
            refine R.loadB t22 hB3 rfl rfl rfl trivial ?_
            refine R.gT rfl rfl ?_
            refine R.len Try.underlying22 hm.row rfl ?_
            refine R.gT rfl rfl ?_
            refine R.geq (b := false) rfl rfl (decide_eq_false (by omega)) ?_
            refine R.pickF rfl ?_
            refine R.nil ?_
            refine E.condF rfl ?_
            refine E.skip ?_
            refine E.seq ?_
            refine E.regionP rfl ?_
            refine R.fld fa54_0 rfl ?_
            refine R.loadB t22 hB3 rfl rfl rfl trivial ?_
            refine R.fld fa117_1 rfl ?_
            refine R.loadB t3 hB5 rfl rfl rfl trivial ?_
            refine R.ix (m := a) Try.underlying22 t35 (by decide) hm.row rfl rfl ha ?_
            obtain ⟨u30, hu30, hr30⟩ := hm.get a (by omega)
            refine R.ld t35 (hm.row.ext hE) rfl hu30 rfl (fun _ _ => trivial) ?_
            refine R.len Try.underlying35 hr30 rfl ?_
            refine R.assign ?_
            refine R.nil ?_
            refine E.seq ?_
            refine E.seq ?_
            refine E.regionW allS [] mixed rfl (by kernel_rfl) ?_
            intro w4 hx4 hh4
            replace hB3 := hB3.ext hx4
            replace hB5 := hB5.ext hx4
            replace hB6 := hB6.ext hx4
            replace hE := hE.ext hx4
            refine R.move ?_
            refine R.eql (b := false) rfl rfl (decide_eq_false (by omega)) ?_
            refine R.move ?_
            refine R.gT rfl rfl ?_
            refine R.fld fa54_0 rfl ?_
            refine R.gT rfl rfl ?_
            refine R.loadB t22 hB3 rfl rfl rfl trivial ?_
            refine R.gT rfl rfl ?_
            refine R.fld fa117_1 rfl ?_
            refine R.gT rfl rfl ?_
            refine R.loadB t3 hB5 rfl rfl rfl trivial ?_
            refine R.gT rfl rfl ?_
            refine R.ix (m := a) Try.underlying22 t35 (by decide) hm.row rfl rfl ha ?_
            refine R.gT rfl rfl ?_
            obtain ⟨u40, hu40, hr40⟩ := hm.get a (by omega)
            refine R.ld t35 (hm.row.ext hE) rfl hu40 rfl (fun _ _ => trivial) ?_
            refine R.gT rfl rfl ?_
            refine R.move ?_
            refine R.gT rfl rfl ?_
            refine R.subN (m := xss[a].length) (n := 1) rfl rfl (by omega) (by omega) ?_
            refine R.gT rfl rfl ?_
            refine R.ix (m := xss[a].length - 1) Try.underlying35 t3 (by decide) hr40 rfl rfl (by omega) ?_
            refine R.gT rfl rfl ?_
            refine R.ldE (j := xss[a].length - 1) t3 hr40 hE rfl (int_at (by omega)) rfl (fun _ _ => trivial) ?_
            refine R.gT rfl rfl ?_
            refine R.fld fa117_0 rfl ?_
            refine R.gT rfl rfl ?_
            refine R.loadB t3 hB5 rfl rfl rfl trivial ?_
            refine R.gT rfl rfl ?_
            refine R.neq (b := false) rfl rfl (by simp [hb]) ?_
            refine R.pickF rfl ?_
            refine R.nil ?_
            refine E.condF rfl ?_
            refine E.skip ?_
            refine E.seq ?_
            refine E.seq ?_
            refine E.regionP rfl ?_
            refine R.fld fa117_2 rfl ?_
            refine R.loadB t3 hB5 rfl rfl rfl trivial ?_
            refine R.eql (b := false) rfl rfl (by simp [ht]) ?_
            refine R.nil ?_
            refine E.condF rfl ?_
            refine E.skip ?_
            refine E.seq ?_
            refine E.regionP rfl ?_
            refine R.loadA t54 hB3 rfl rfl rfl trivial ?_
            refine R.fld fa117_1 rfl ?_
            refine R.loadB t3 hB5 rfl rfl rfl trivial ?_
            refine R.fld fa117_2 rfl ?_
            refine R.loadB t3 hB5 rfl rfl rfl trivial ?_
            refine R.build build53 rfl ?_
            refine R.callE2 ent58 (rShiftP _ (hm.ext hE) hl5 hx10 (hR.shiftR_ok hs)) rfl rfl nofun ?_
            rintro v75 w5 hx5 ⟨u75, us75, rfl, hM75⟩
            replace hB3 := hB3.ext hx5
            replace hB5 := hB5.ext hx5
            replace hB6 := hB6.ext hx5
            replace hE := hE.ext hx5
            refine R.move ?_
            refine R.extract rfl rfl ?_
            refine R.extract rfl rfl ?_
            refine R.alloc t54 nofun ?_
            intro b11 w6 hb11 hx6 hB11
            have ne3_11 : b3 ≠ b11 := by have := hB3.lt; omega
            have ne6_11 : b6 ≠ b11 := by have := hB6.lt; omega
            replace hb11 := Nat.le_trans hE.size hb11
            replace hM75 := hM75.ext hx6
            replace hB3 := hB3.ext hx6
            replace hB5 := hB5.ext hx6
            replace hB6 := hB6.ext hx6
            replace hE := hE.ext hx6
            replace hB11 : Blk _ b11 54 #[.slice none 0 0, .int .i64 0] := hB11
            refine R.storeA t54 hB11 rfl rfl rfl rfl (ones2 hM75.row.one rfl) nofun ?_
            intro w7 hU7 hs7 hN7
            replace hM75 := hM75.upT hU7 hB11 (by decide)
            replace hB3 := hB3.up hU7 (fun h => ne3_11 h)
            replace hB5 := hB5.upT hU7 hB11 (by decide)
            replace hB6 := hB6.up hU7 (fun h => ne6_11 h)
            replace hE := hE.own hU7 hb11
            replace hB11 : Blk _ b11 54 #[u75, .int .i64 H] := hN7
            clear hN7
            refine R.assign ?_
            refine R.nil ?_
            refine E.seq ?_
            refine E.regionP rfl ?_
            refine R.loadA t54 hB11 rfl rfl rfl trivial ?_
            refine R.move ?_
            refine R.eql (b := true) rfl rfl (by simp) ?_
            refine R.storeA t54 hB6 rfl rfl rfl rfl (ones2 hM75.row.one rfl) nofun ?_
            intro w8 hU8 hs8 hN8
            replace hM75 := hM75.upT hU8 hB6 (by decide)
            replace hB3 := hB3.up hU8 (fun h => ne3_6 h)
            replace hB5 := hB5.upT hU8 hB6 (by decide)
            replace hB11 := hB11.up hU8 (fun h => ne6_11 h.symm)
            replace hE := hE.own hU8 hb6
            replace hB6 : Blk _ b6 54 #[u75, .int .i64 H] := hN8
            clear hN8
            refine R.assign ?_
            refine R.nil ?_
            refine E.ret ?_
            exact retA1 (.bool true) t54 hB6 rfl rfl rfl rfl ⟨_, rfl, hE, by rw [← hb, doL_shift2 hR ha hz ht, if_pos hs]; exact ⟨u75, us75, H, rfl, hM75.row.one, fun ys n' e => by obtain ⟨rfl, rfl⟩ := Prod.mk.inj (Option.some.inj e); exact ⟨rfl, hM75⟩⟩⟩
          · skip
            refine calls_E (args := [.agg #[v, .int .i64 H], .int .i64 (ord.getD nx 0), .agg #[.int .i64 b, .int .i64 ((a : Nat)), .int .i64 (t)]]) 81 Try.func98 rfl rfl (by simp) ?_
            have hE : Ext w w := Upd.refl w
            refine E.seq ?_
            refine E.regionP rfl ?_
            refine R.box rfl nofun ?_
            intro b3 w1 hb3 hx1 hB3
            replace hb3 := Nat.le_trans hE.size hb3
            replace hE := hE.ext hx1
            replace hB3 : Blk _ b3 54 #[v, .int .i64 H] := hB3
            refine R.box rfl nofun ?_
            intro b5 w2 hb5 hx2 hB5
            replace hb5 := Nat.le_trans hE.size hb5
            replace hB3 := hB3.ext hx2
            replace hE := hE.ext hx2
            replace hB5 : Blk _ b5 117 #[.int .i64 b, .int .i64 ((a : Nat)), .int .i64 (t)] := hB5
            refine R.alloc t54 nofun ?_
            intro b6 w3 hb6 hx3 hB6
            have ne3_6 : b3 ≠ b6 := by have := hB3.lt; omega
            replace hb6 := Nat.le_trans hE.size hb6
            replace hB3 := hB3.ext hx3
            replace hB5 := hB5.ext hx3
            replace hE := hE.ext hx3
            replace hB6 : Blk _ b6 54 #[.slice none 0 0, .int .i64 0] := hB6
            refine R.assign ?_
            refine R.nil ?_
            refine E.seq ?_
            refine E.seq ?_
            refine E.regionP rfl ?_
            refine R.fld fa117_1 rfl ?_
            refine R.loadB t3 hB5 rfl rfl rfl trivial ?_
            refine R.lss (b := false) rfl rfl (decide_eq_false (by omega)) ?_
            refine R.move ?_
            refine R.gT rfl rfl ?_
            refine R.fld fa117_1 rfl ?_
            refine R.gT rfl rfl ?_
            refine R.loadB t3 hB5 rfl rfl rfl trivial ?_
            refine R.gT rfl rfl ?_
            refine R.fld fa54_0 rfl ?_
            refine R.gT rfl rfl ?_
            refine R.loadB t22 hB3 rfl rfl rfl trivial ?_
            refine R.gT rfl rfl ?_
            refine R.len Try.underlying22 hm.row rfl ?_
            refine R.gT rfl rfl ?_
            refine R.geq (b := false) rfl rfl (decide_eq_false (by omega)) ?_
            refine R.pickF rfl ?_
            refine R.nil ?_
            refine E.condF rfl ?_
            refine E.skip ?_
            refine E.seq ?_
            refine E.regionP rfl ?_
            refine R.fld fa54_0 rfl ?_
            refine R.loadB t22 hB3 rfl rfl rfl trivial ?_
            refine R.fld fa117_1 rfl ?_
            refine R.loadB t3 hB5 rfl rfl rfl trivial ?_
            refine R.ix (m := a) Try.underlying22 t35 (by decide) hm.row rfl rfl ha ?_
            obtain ⟨u30, hu30, hr30⟩ := hm.get a (by omega)
            refine R.ld t35 (hm.row.ext hE) rfl hu30 rfl (fun _ _ => trivial) ?_
            refine R.len Try.underlying35 hr30 rfl ?_
            refine R.assign ?_
            refine R.nil ?_
            refine E.seq ?_
            refine E.seq ?_
            refine E.regionW allS [] mixed rfl (by kernel_rfl) ?_
            intro w4 hx4 hh4
            replace hB3 := hB3.ext hx4
            replace hB5 := hB5.ext hx4
            replace hB6 := hB6.ext hx4
            replace hE := hE.ext hx4
            refine R.move ?_
            refine R.eql (b := false) rfl rfl (decide_eq_false (by omega)) ?_
            refine R.move ?_
            refine R.gT rfl rfl ?_
            refine R.fld fa54_0 rfl ?_
            refine R.gT rfl rfl ?_
            refine R.loadB t22 hB3 rfl rfl rfl trivial ?_
            refine R.gT rfl rfl ?_
            refine R.fld fa117_1 rfl ?_
            refine R.gT rfl rfl ?_
            refine R.loadB t3 hB5 rfl rfl rfl trivial ?_
            refine R.gT rfl rfl ?_
            refine R.ix (m := a) Try.underlying22 t35 (by decide) hm.row rfl rfl ha ?_
            refine R.gT rfl rfl ?_
            obtain ⟨u40, hu40, hr40⟩ := hm.get a (by omega)
            refine R.ld t35 (hm.row.ext hE) rfl hu40 rfl (fun _ _ => trivial) ?_
            refine R.gT rfl rfl ?_
            refine R.move ?_
            refine R.gT rfl rfl ?_
            refine R.subN (m := xss[a].length) (n := 1) rfl rfl (by omega) (by omega) ?_
            refine R.gT rfl rfl ?_
            refine R.ix (m := xss[a].length - 1) Try.underlying35 t3 (by decide) hr40 rfl rfl (by omega) ?_
            refine R.gT rfl rfl ?_
            refine R.ldE (j := xss[a].length - 1) t3 hr40 hE rfl (int_at (by omega)) rfl (fun _ _ => trivial) ?_
            refine R.gT rfl rfl ?_
            refine R.fld fa117_0 rfl ?_
            refine R.gT rfl rfl ?_
            refine R.loadB t3 hB5 rfl rfl rfl trivial ?_
            refine R.gT rfl rfl ?_
            refine R.neq (b := false) rfl rfl (by simp [hb]) ?_
            refine R.pickF rfl ?_
            refine R.nil ?_
            refine E.condF rfl ?_
            refine E.skip ?_
            refine E.seq ?_
            refine E.seq ?_
            refine E.regionP rfl ?_
            refine R.fld fa117_2 rfl ?_
            refine R.loadB t3 hB5 rfl rfl rfl trivial ?_
            refine R.eql (b := false) rfl rfl (by simp [ht]) ?_
            refine R.nil ?_
            refine E.condF rfl ?_
            refine E.skip ?_
            refine E.seq ?_
            refine E.regionP rfl ?_
            refine R.loadA t54 hB3 rfl rfl rfl trivial ?_
            refine R.fld fa117_1 rfl ?_
            refine R.loadB t3 hB5 rfl rfl rfl trivial ?_
            refine R.fld fa117_2 rfl ?_
            refine R.loadB t3 hB5 rfl rfl rfl trivial ?_
            refine R.build build53 rfl ?_
            refine R.callE2 ent58 (rShiftP _ (hm.ext hE) hl5 hx10 (hR.shiftR_no hs)) rfl rfl nofun ?_
            rintro v75 w5 hx5 ⟨u75, us75, rfl, hM75⟩
            replace hB3 := hB3.ext hx5
            replace hB5 := hB5.ext hx5
            replace hB6 := hB6.ext hx5
            replace hE := hE.ext hx5
            refine R.move ?_
            refine R.extract rfl rfl ?_
            refine R.extract rfl rfl ?_
            refine R.alloc t54 nofun ?_
            intro b11 w6 hb11 hx6 hB11
            have ne3_11 : b3 ≠ b11 := by have := hB3.lt; omega
            have ne6_11 : b6 ≠ b11 := by have := hB6.lt; omega
            replace hb11 := Nat.le_trans hE.size hb11
            replace hM75 := hM75.ext hx6
            replace hB3 := hB3.ext hx6
            replace hB5 := hB5.ext hx6
            replace hB6 := hB6.ext hx6
            replace hE := hE.ext hx6
            replace hB11 : Blk _ b11 54 #[.slice none 0 0, .int .i64 0] := hB11
            refine R.storeA t54 hB11 rfl rfl rfl rfl (ones2 hM75.row.one rfl) nofun ?_
            intro w7 hU7 hs7 hN7
            replace hM75 := hM75.upT hU7 hB11 (by decide)
            replace hB3 := hB3.up hU7 (fun h => ne3_11 h)
            replace hB5 := hB5.upT hU7 hB11 (by decide)
            replace hB6 := hB6.up hU7 (fun h => ne6_11 h)
            replace hE := hE.own hU7 hb11
            replace hB11 : Blk _ b11 54 #[u75, .int .i64 0] := hN7
            clear hN7
            refine R.assign ?_
            refine R.nil ?_
            refine E.seq ?_
            refine E.regionP rfl ?_
            refine R.loadA t54 hB11 rfl rfl rfl trivial ?_
            refine R.move ?_
            refine R.eql (b := false) rfl rfl (by simp [hs]) ?_
            refine R.storeA t54 hB6 rfl rfl rfl rfl (ones2 hM75.row.one rfl) nofun ?_
            intro w8 hU8 hs8 hN8
            replace hM75 := hM75.upT hU8 hB6 (by decide)
            replace hB3 := hB3.up hU8 (fun h => ne3_6 h)
            replace hB5 := hB5.upT hU8 hB6 (by decide)
            replace hB11 := hB11.up hU8 (fun h => ne6_11 h.symm)
            replace hE := hE.own hU8 hb6
            replace hB6 : Blk _ b6 54 #[u75, .int .i64 0] := hN8
            clear hN8
            refine R.assign ?_
            refine R.nil ?_
            refine E.ret ?_
            exact retA1 (.bool false) t54 hB6 rfl rfl rfl rfl ⟨_, rfl, hE, by rw [← hb, doL_shift2 hR ha hz ht, if_neg hs]; exact ⟨u75, us75, 0, rfl, hM75.row.one, nofun⟩⟩
      · skip
        refine calls_E (args := [.agg #[v, .int .i64 H], .int .i64 (ord.getD nx 0), .agg #[.int .i64 b, .int .i64 ((a : Nat)), .int .i64 (t)]]) 81 Try.func98 rfl rfl (by simp) ?_
        have hE : Ext w w := Upd.refl w
        refine E.seq ?_
        refine E.regionP rfl ?_
        refine R.box rfl nofun ?_
        intro b3 w1 hb3 hx1 hB3
        replace hb3 := Nat.le_trans hE.size hb3
        replace hE := hE.ext hx1
        replace hB3 : Blk _ b3 54 #[v, .int .i64 H] := hB3
        refine R.box rfl nofun ?_
        intro b5 w2 hb5 hx2 hB5
        replace hb5 := Nat.le_trans hE.size hb5
        replace hB3 := hB3.ext hx2
        replace hE := hE.ext hx2
        replace hB5 : Blk _ b5 117 #[.int .i64 b, .int .i64 ((a : Nat)), .int .i64 (t)] := hB5
        refine R.alloc t54 nofun ?_
        intro b6 w3 hb6 hx3 hB6
        have ne3_6 : b3 ≠ b6 := by have := hB3.lt; omega
        replace hb6 := Nat.le_trans hE.size hb6
        replace hB3 := hB3.ext hx3
        replace hB5 := hB5.ext hx3
        replace hE := hE.ext hx3
        replace hB6 : Blk _ b6 54 #[.slice none 0 0, .int .i64 0] := hB6
        refine R.assign ?_
        refine R.nil ?_
        refine E.seq ?_
        refine E.seq ?_
        refine E.regionP rfl ?_
        refine R.fld fa117_1 rfl ?_
        refine R.loadB t3 hB5 rfl rfl rfl trivial ?_
        refine R.lss (b := false) rfl rfl (decide_eq_false (by omega)) ?_
        refine R.move ?_
        refine R.gT rfl rfl ?_
        refine R.fld fa117_1 rfl ?_
        refine R.gT rfl rfl ?_
        refine R.loadB t3 hB5 rfl rfl rfl trivial ?_
        refine R.gT rfl rfl ?_
        refine R.fld fa54_0 rfl ?_
        refine R.gT rfl rfl ?_
        refine R.loadB t22 hB3 rfl rfl rfl trivial ?_
        refine R.gT rfl rfl ?_
        refine R.len Try.underlying22 hm.row rfl ?_
        refine R.gT rfl rfl ?_
        refine R.geq (b := false) rfl rfl (decide_eq_false (by omega)) ?_
        refine R.pickF rfl ?_
        refine R.nil ?_
        refine E.condF rfl ?_
        refine E.skip ?_
        refine E.seq ?_
        refine E.regionP rfl ?_
        refine R.fld fa54_0 rfl ?_
        refine R.loadB t22 hB3 rfl rfl rfl trivial ?_
        refine R.fld fa117_1 rfl ?_
        refine R.loadB t3 hB5 rfl rfl rfl trivial ?_
        refine R.ix (m := a) Try.underlying22 t35 (by decide) hm.row rfl rfl ha ?_
        obtain ⟨u30, hu30, hr30⟩ := hm.get a (by omega)
        refine R.ld t35 (hm.row.ext hE) rfl hu30 rfl (fun _ _ => trivial) ?_
        refine R.len Try.underlying35 hr30 rfl ?_
        refine R.assign ?_
        refine R.nil ?_
        refine E.seq ?_
        refine E.seq ?_
        refine E.regionW allS [] mixed rfl (by kernel_rfl) ?_
        intro w4 hx4 hh4
        replace hB3 := hB3.ext hx4
        replace hB5 := hB5.ext hx4
        replace hB6 := hB6.ext hx4
        replace hE := hE.ext hx4
        refine R.move ?_
        refine R.eql (b := false) rfl rfl (decide_eq_false (by omega)) ?_
        refine R.move ?_
        refine R.gT rfl rfl ?_
        refine R.fld fa54_0 rfl ?_
        refine R.gT rfl rfl ?_
        refine R.loadB t22 hB3 rfl rfl rfl trivial ?_
        refine R.gT rfl rfl ?_
        refine R.fld fa117_1 rfl ?_
        refine R.gT rfl rfl ?_
        refine R.loadB t3 hB5 rfl rfl rfl trivial ?_
        refine R.gT rfl rfl ?_
        refine R.ix (m := a) Try.underlying22 t35 (by decide) hm.row rfl rfl ha ?_
        refine R.gT rfl rfl ?_
        obtain ⟨u40, hu40, hr40⟩ := hm.get a (by omega)
        refine R.ld t35 (hm.row.ext hE) rfl hu40 rfl (fun _ _ => trivial) ?_
        refine R.gT rfl rfl ?_
        refine R.move ?_
        refine R.gT rfl rfl ?_
        refine R.subN (m := xss[a].length) (n := 1) rfl rfl (by omega) (by omega) ?_
        refine R.gT rfl rfl ?_
        refine R.ix (m := xss[a].length - 1) Try.underlying35 t3 (by decide) hr40 rfl rfl (by omega) ?_
        refine R.gT rfl rfl ?_
        refine R.ldE (j := xss[a].length - 1) t3 hr40 hE rfl (int_at (by omega)) rfl (fun _ _ => trivial) ?_
        refine R.gT rfl rfl ?_
        refine R.fld fa117_0 rfl ?_
        refine R.gT rfl rfl ?_
        refine R.loadB t3 hB5 rfl rfl rfl trivial ?_
        refine R.gT rfl rfl ?_
        refine R.neq (b := true) rfl rfl (by simpa using hb) ?_
        refine R.pickF rfl ?_
        refine R.nil ?_
        refine E.condT rfl ?_
        refine E.seq ?_
        refine E.regionP rfl ?_
        refine R.loadA t54 hB3 rfl rfl rfl trivial ?_
        refine R.storeA t54 hB6 rfl rfl rfl rfl (ones2 hm.row.one rfl) nofun ?_
        intro w5 hU5 hs5 hN5
        replace hB3 := hB3.up hU5 (fun h => ne3_6 h)
        replace hB5 := hB5.upT hU5 hB6 (by decide)
        replace hE := hE.own hU5 hb6
        replace hB6 : Blk _ b6 54 #[v, .int .i64 H] := hN5
        clear hN5
        refine R.assign ?_
        refine R.nil ?_
        refine E.ret ?_
        exact retA1 (.bool false) t54 hB6 rfl rfl rfl rfl ⟨_, rfl, hE, by rw [doL_top (by rw [htop]; exact hb)]; exact ⟨v, us, H, rfl, hm.row.one, nofun⟩⟩
end Go.Proofs.Ytfdmndkoiheebaa
