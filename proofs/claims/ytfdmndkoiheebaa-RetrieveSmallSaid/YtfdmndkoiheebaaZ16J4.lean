import Derived.Test.YtfdmndkoiheebaaZ16J3
namespace Go.Proofs.Ytfdmndkoiheebaa
open Go Go.RowKit
theorem doL_some {xss ys : List (List Int)} {H nx n' : Nat} {ord : List Int} {s : Int × Int × Int} (h : doL xss H ord nx s = some (ys, n')) :
    ys.length = xss.length ∧ nx ≤ n' ∧ (nx ≤ ord.length → n' ≤ ord.length) ∧ ((∀ xs ∈ xss, xs.length ≤ H) → ∀ xs ∈ ys, xs.length ≤ H) := by
  unfold doL at h
  have hD : ∀ (zs : List (List Int)) (i : Nat), (∀ xs ∈ zs, xs.length ≤ H) → ∀ xs ∈ (zs.getD i []).dropLast :: zs, xs.length ≤ H := fun zs i hz xs hx => by
    rcases List.mem_cons.1 hx with rfl | hx
    · rw [List.getD_eq_getElem?_getD]
      rcases hg : zs[i]? with _ | y
      · simp
      · have := hz y (List.mem_of_getElem? hg); simp; omega
    · exact hz xs hx
  split at h
  · cases h
  · split at h
    · split at h
      · cases h
      · rename_i h1
        obtain ⟨rfl, rfl⟩ := Prod.mk.inj (Option.some.inj h)
        refine ⟨by simp, by omega, fun _ => by omega, fun hx xs hm => ?_⟩
        rcases List.mem_or_eq_of_mem_set hm with hm | rfl
        · exact hx _ hm
        · exact hD xss _ hx _ List.mem_cons_self
    · split at h
      · cases h
      · rename_i h1
        obtain ⟨rfl, rfl⟩ := Prod.mk.inj (Option.some.inj h)
        refine ⟨by simp, Nat.le_refl _, id, fun hx xs hm => ?_⟩
        rcases List.mem_or_eq_of_mem_set hm with hm | rfl
        · rcases List.mem_or_eq_of_mem_set hm with hm | rfl
          · exact hx _ hm
          · have ht : s.2.2.toNat < xss.length := by omega
            have e : xss.getD s.2.2.toNat [] = xss[s.2.2.toNat] := by simp [ht]
            have := hx _ (List.getElem_mem ht)
            rw [e] at h1 ⊢
            simp; omega
        · exact hD xss _ hx _ List.mem_cons_self
def goL (H : Nat) (ord : List Int) : List (List Int) → Nat → List (Int × Int × Int) → Nat → Nat → Nat × Int
  | _, nx, [], c, i => if nx < ord.length then (i, 351) else (c, 0)
  | xss, nx, s :: ss, c, i => match doL xss H ord nx s with
    | none => (i, 350)
    | some (ys, n') => goL H ord ys n' ss (if 0 ≤ s.2.2 then c + 1 else c) (i + 1)
def checkR (xss : List (List Int)) (h : Int) (ord : List Int) (ss : List (Int × Int × Int)) : Nat × Int :=
  if beginB xss h ord then (if 2000 < ss.length then (0, 5) else goL h.toNat ord xss 0 ss 0 0) else (0, 2)
theorem goL_none {H : Nat} {ord : List Int} {xss : List (List Int)} {nx c i : Nat} {ss : List (Int × Int × Int)} (hi : i < ss.length) (h : doL xss H ord nx ss[i] = none) : goL H ord xss nx (ss.drop i) c i = (i, 350) := by
  rw [List.drop_eq_getElem_cons hi]; simp only [goL, h]
theorem goL_some {H : Nat} {ord : List Int} {xss ys : List (List Int)} {nx n' c i : Nat} {ss : List (Int × Int × Int)} (hi : i < ss.length) (h : doL xss H ord nx ss[i] = some (ys, n')) : goL H ord xss nx (ss.drop i) c i = goL H ord ys n' (ss.drop (i + 1)) (if 0 ≤ ss[i].2.2 then c + 1 else c) (i + 1) := by
  rw [List.drop_eq_getElem_cons hi]; simp only [goL, h]
theorem goL_end {H : Nat} {ord : List Int} {xss : List (List Int)} {nx c i : Nat} {ss : List (Int × Int × Int)} (hi : i = ss.length) : goL H ord xss nx (ss.drop i) c i = if nx < ord.length then (i, 351) else (c, 0) := by
  rw [hi, List.drop_length]; rfl
section
variable {w0 w w' : World} {bj b : Nat} {vs : Value} {us : List Value} {vo : Value} {rm : Nat} {vt : Value} {xss : List (List Int)} {H : Nat} {ord : List Int} {ss : List (Int × Int × Int)} {nx : Nat}
theorem Job.upN (h : Job w0 w bj vs us vo rm vt xss H ord ss nx) (u : Upd (one b) w w') (hn : ¬ JB bj vs us vt b) (hr : rm ≠ b) (hw : w0.heap.size ≤ b) : Job w0 w' bj vs us vo rm vt xss H ord ss nx :=
  h.up u (fun x e => by have e1 : x = b := e; omega) (fun e => hn (.inl (Eq.symm e))) (fun x e e1 => hn (.inr (.inl (by have e2 : x = b := e1; exact e2 ▸ e)))) (fun y hy x e e1 => hn (.inr (.inr (.inl ⟨y, hy, by have e2 : x = b := e1; exact e2 ▸ e⟩)))) hr (fun x e e1 => hn (.inr (.inr (.inr (by have e2 : x = b := e1; exact e2 ▸ e)))))
theorem DoRes.none_ {r : Value} {s : Int × Int × Int} (h : DoRes w0 w' r bj vs us vo rm vt xss H ord ss nx s) (hd : doL xss H ord nx s = none) : r = .bool false ∧ Job w0 w' bj vs us vo rm vt xss H ord ss nx := by unfold DoRes at h; rw [hd] at h; exact h
theorem DoRes.some_ {r : Value} {s : Int × Int × Int} {ys : List (List Int)} {n' : Nat} (h : DoRes w0 w' r bj vs us vo rm vt xss H ord ss nx s) (hd : doL xss H ord nx s = some (ys, n')) : r = .bool true ∧ ∃ us' vt', Job w0 w' bj vs us' vo rm vt' ys H ord (ss ++ [s]) n' := by unfold DoRes at h; rw [hd] at h; exact h
end
set_option maxHeartbeats 1600000 in
theorem yCheck (w : World) {v vo vss : Value} {h : Int} {us : List Value} {xss : List (List Int)} {ord : List Int} {ss : List (Int × Int × Int)} (hm : Mat w v us xss) (ho : Ints w vo ord) (hss : Steps w vss ss) (hl : xss.length < 1000000) (hx : ∀ xs ∈ xss, xs.length < 1000000) (hol : ord.length < 1000000) (hsl : ss.length < 1000000000) :
    Calls Try.prog 46 #[.agg #[v, .int .i64 h], vo, vss] w (Ret fun r w' => Ext w w' ∧ r = .tuple #[.int .i64 ((checkR xss h ord ss).1 : Nat), .int .i64 (checkR xss h ord ss).2]) := by
  have hol' : ord.length < 1000000000 := by omega
  cases hb : beginB xss h ord
  rotate_left
  · obtain ⟨hRP, hOP⟩ := beginB_right hb
    obtain ⟨H, rfl, hH0, hH6, hl30, hl1, hxH⟩ := rightB_nat hRP.b
    have hCR : checkR xss H ord ss = if 2000 < ss.length then (0, 5) else goL H ord xss 0 ss 0 0 := by simp [checkR, hb]
    refine calls_E (args := [.agg #[v, .int .i64 H], vo, vss]) 54 Try.func46 rfl rfl (by simp) ?_
    have hE : Ext w w := Upd.refl w
    refine E.seq ?_
    refine E.regionP rfl ?_
    refine R.box rfl nofun ?_
    intro b3 w1 hb3 hx1 hB3
    replace hb3 := Nat.le_trans hE.size hb3
    replace hE := hE.ext hx1
    replace hB3 : Blk _ b3 24 #[v, .int .i64 H] := hB3
    refine R.assign ?_
    refine R.assign ?_
    refine R.nil ?_
    refine E.seq ?_
    refine E.regionP rfl ?_
    refine R.loadA t24 hB3 rfl rfl rfl trivial ?_
    refine R.move ?_
    refine R.callE2 ent73 (begin1 _ (hm.ext hE) (ho.ext hE) hl hx hol' hb) rfl rfl nofun ?_
    rintro v16 w2 hx2 ⟨bj, vs, us0, rm, vt, rfl, hJob⟩
    have hE1 := hE
    replace hB3 := hB3.ext hx2
    replace hE := hE.ext hx2
    refine R.move ?_
    refine R.extract rfl rfl ?_
    refine R.extract rfl rfl ?_
    refine R.assign ?_
    refine R.assign ?_
    refine R.nil ?_
    refine E.seq ?_
    refine E.block ?_
    refine E.seq ?_
    refine E.regionP rfl ?_
    refine R.move ?_
    refine R.not rfl ?_
    refine R.assign ?_
    refine R.nil ?_
    refine E.condF rfl ?_
    refine E.seq ?_
    refine E.regionP rfl ?_
    refine R.move ?_
    refine R.len Try.underlying62 hss rfl ?_
    refine R.gtr rfl rfl rfl ?_
    refine R.assign ?_
    refine R.nil ?_
    refine E.cond rfl (fun hc22 => ?_) (fun hc22 => ?_)
    · replace hc22 := dT hc22
      refine E.seq ?_
      refine E.regionP rfl ?_
      refine R.assign ?_
      refine R.assign ?_
      refine R.nil ?_
      refine E.ret ?_
      exact ret2 (.int .i64 0) (.int .i64 5) rfl rfl rfl ⟨_, rfl, hE, by rw [hCR, if_pos (by omega)]; rfl⟩
    · replace hc22 := dF hc22
      refine E.skip ?_
      refine E.seq ?_
      refine E.regionP rfl ?_
      refine R.assign ?_
      refine R.nil ?_
      refine E.seq ?_
      refine E.seq ?_
      refine E.regionP rfl ?_
      refine R.move ?_
      refine R.len Try.underlying62 hss rfl ?_
      refine R.move ?_
      refine R.nil ?_
      refine E.block ?_
      refine E.loop (fun n e wr => ∃ (i c nx : Nat) (ys : List (List Int)) (us1 : List Value) (vt1 : Value), n = ss.length - i ∧ i ≤ ss.length ∧ c ≤ i ∧ goL H ord ys nx (ss.drop i) c i = goL H ord xss 0 ss 0 0 ∧ ys.length = xss.length ∧ (∀ xs ∈ ys, xs.length ≤ H) ∧ nx ≤ ord.length ∧ Ext w wr ∧ Job w1 wr bj vs us1 vo rm vt1 ys H ord (ss.take i) nx ∧ Has e [(1, vo), (2, vss), (8, .pointer (some ⟨bj, 0, none⟩)), (10, .int .i64 (c : Nat)), (26, vss), (27, .int .i64 ss.length), (28, .int .i64 (i : Nat))]) (ss.length) ?_ ?_
      · exact ⟨0, 0, 0, xss, us0, vt, rfl, Nat.zero_le _, Nat.le_refl _, by simp, rfl, hxH, Nat.zero_le _, hE, by simpa using hJob, rfl, rfl, rfl, rfl, rfl, rfl, rfl, trivial⟩
      · rintro n e wr ⟨i, c, nx, ys, us1, vt1, rfl, hi, hci, hq, hyl, hy6, hnx, hE, hJob, hH⟩
        obtain ⟨e, rfl⟩ := hH.ex
        clear hH
        refine E.seq ?_
        refine E.regionP rfl ?_
        refine R.lss rfl rfl rfl ?_
        refine R.nil ?_
        refine E.seq ?_
        refine E.cond rfl (fun hc29 => ?_) (fun hc29 => ?_)
        · replace hc29 := dT hc29
          have hi1 : i < ss.length := by omega
          refine E.skip ?_
          refine E.seq ?_
          refine E.block ?_
          refine E.seq ?_
          refine E.regionP rfl ?_
          refine R.move ?_
          refine R.ix Try.underlying62 t68 (by decide) hss rfl rfl (by omega) ?_
          refine R.ldS t68 hss hE (by omega) rfl rfl (fun _ _ => trivial) ?_
          refine R.alloc t68 nofun ?_
          intro b12 w12 hb12 hx12 hB12
          have hn12 : ¬ JB bj vs us1 vt1 b12 := fun h => by have := hJob.lt h; omega
          replace hb12 := Nat.le_trans hJob.ext.size hb12
          replace hJob := hJob.ex hx12
          replace hE := hE.ext hx12
          replace hB12 : Blk _ b12 68 #[.int .i64 0, .int .i64 0, .int .i64 0] := hB12
          refine R.assign ?_
          refine R.storeA t68 hB12 rfl rfl rfl rfl (ones3 rfl rfl rfl) nofun ?_
          intro w13 hU13 hs13 hN13
          replace hJob := hJob.upN hU13 hn12 (hJob.ranks.ne hB12) hb12
          replace hE := hE.own hU13 (Nat.le_trans hE1.size hb12)
          replace hB12 : Blk _ b12 68 #[.int .i64 ss[i].1, .int .i64 ss[i].2.1, .int .i64 ss[i].2.2] := hN13
          refine R.nil ?_
          refine E.seq ?_
          refine E.seq ?_
          rcases hd : doL ys H ord nx ss[i] with _ | ⟨ys1, n1⟩
          · refine E.regionP rfl ?_
            refine R.move ?_
            refine R.loadA t68 hB12 rfl rfl rfl trivial ?_
            refine R.call2 ent76 (do_ w1 _ hJob (by omega) (fun xs hx => by have := hy6 xs hx; omega) hnx hol (by simp; omega)) rfl rfl ?_
            rintro v35 w35 ⟨hU35, hD35⟩
            refine ⟨nofun, ?_⟩
            replace hB12 := hB12.up hU35 hn12
            replace hE := hE.trans hU35 (fun b hb hx => by have := hJob.ge hx; have := hE1.size; omega)
            obtain ⟨rfl, hJob⟩ := hD35.none_ hd
            refine R.not rfl ?_
            refine R.nil ?_
            refine E.condT rfl ?_
            refine E.seq ?_
            refine E.regionP rfl ?_
            refine R.move ?_
            refine R.assign ?_
            refine R.assign ?_
            refine R.nil ?_
            refine E.ret ?_
            exact ret2 (.int .i64 (i : Nat)) (.int .i64 350) rfl rfl rfl ⟨_, rfl, hE, by rw [hCR, if_neg (by omega), ← hq, goL_none hi1 hd]⟩
          · refine E.regionP rfl ?_
            refine R.move ?_
            refine R.loadA t68 hB12 rfl rfl rfl trivial ?_
            refine R.call2 ent76 (do_ w1 _ hJob (by omega) (fun xs hx => by have := hy6 xs hx; omega) hnx hol (by simp; omega)) rfl rfl ?_
            rintro v35 w35 ⟨hU35, hD35⟩
            refine ⟨nofun, ?_⟩
            replace hB12 := hB12.up hU35 hn12
            replace hE := hE.trans hU35 (fun b hb hx => by have := hJob.ge hx; have := hE1.size; omega)
            obtain ⟨rfl, us2, vt2, hJob⟩ := hD35.some_ hd
            have hds := doL_some hd
            refine R.not rfl ?_
            refine R.nil ?_
            refine E.condF rfl ?_
            refine E.skip ?_
            refine E.seq ?_
            refine E.regionP rfl ?_
            refine R.fld fa68_2 rfl ?_
            refine R.loadB t3 hB12 rfl rfl rfl trivial ?_
            refine R.geq rfl rfl rfl ?_
            refine R.nil ?_
            refine E.cond rfl (fun hc40 => ?_) (fun hc40 => ?_)
            · replace hc40 := dT hc40
              refine E.regionP rfl ?_
              refine R.move ?_
              refine R.addN (m := c) (n := 1) rfl rfl (by omega) ?_
              refine R.assign ?_
              refine R.nil ?_
              refine E.regionP rfl ?_
              refine R.addN (n := 1) rfl rfl (by omega) ?_
              refine R.move ?_
              refine R.nil ?_
              exact ⟨ss.length - (i + 1), by omega, i + 1, c + 1, n1, ys1, us2, vt2, rfl, by omega, by omega, by rw [← hq, goL_some hi1 hd, if_pos (by omega)], by omega, hds.2.2.2 hy6, hds.2.2.1 hnx, hE, by rw [take_snoc (List.getElem?_eq_getElem hi1)]; exact hJob, rfl, rfl, rfl, rfl, rfl, rfl, rfl, trivial⟩
            · replace hc40 := dF hc40
              refine E.skip ?_
              refine E.regionP rfl ?_
              refine R.addN (n := 1) rfl rfl (by omega) ?_
              refine R.move ?_
              refine R.nil ?_
              exact ⟨ss.length - (i + 1), by omega, i + 1, c, n1, ys1, us2, vt2, rfl, by omega, by omega, by rw [← hq, goL_some hi1 hd, if_neg (by omega)], by omega, hds.2.2.2 hy6, hds.2.2.1 hnx, hE, by rw [take_snoc (List.getElem?_eq_getElem hi1)]; exact hJob, rfl, rfl, rfl, rfl, rfl, rfl, rfl, trivial⟩
        · replace hc29 := dF hc29
          obtain rfl : i = ss.length := by omega
          rw [goL_end rfl] at hq
          refine E.exit ?_
          refine E.seq ?_
          refine E.seq ?_
          refine E.regionP rfl ?_
          refine R.move ?_
          refine R.nilCheck rfl ?_
          refine R.fld fa108_5 rfl ?_
          refine R.loadB t3 hJob.blk rfl rfl rfl trivial ?_
          refine R.move ?_
          refine R.len Try.underlying35 ho rfl ?_
          refine R.lss rfl rfl rfl ?_
          refine R.nil ?_
          refine E.cond rfl (fun hc50 => ?_) (fun hc50 => ?_)
          · replace hc50 := dT hc50
            refine E.seq ?_
            refine E.regionP rfl ?_
            refine R.move ?_
            refine R.len Try.underlying62 hss rfl ?_
            refine R.assign ?_
            refine R.assign ?_
            refine R.nil ?_
            refine E.ret ?_
            exact ret2 (.int .i64 (ss.length : Nat)) (.int .i64 351) rfl rfl rfl ⟨_, rfl, hE, by rw [hCR, if_neg (by omega), ← hq, if_pos (by omega)]⟩
          · replace hc50 := dF hc50
            refine E.skip ?_
            refine E.seq ?_
            refine E.regionP rfl ?_
            refine R.move ?_
            refine R.assign ?_
            refine R.assign ?_
            refine R.nil ?_
            refine E.ret ?_
            exact ret2 (.int .i64 (c : Nat)) (.int .i64 0) rfl rfl rfl ⟨_, rfl, hE, by rw [hCR, if_neg (by omega), ← hq, if_neg (by omega)]⟩
  · refine calls_E (args := [.agg #[v, .int .i64 h], vo, vss]) 54 Try.func46 rfl rfl (by simp) ?_
    have hE : Ext w w := Upd.refl w
    refine E.seq ?_
    refine E.regionP rfl ?_
    refine R.box rfl nofun ?_
    intro b3 w1 hb3 hx1 hB3
    replace hb3 := Nat.le_trans hE.size hb3
    replace hE := hE.ext hx1
    replace hB3 : Blk _ b3 24 #[v, .int .i64 h] := hB3
    refine R.assign ?_
    refine R.assign ?_
    refine R.nil ?_
    refine E.seq ?_
    refine E.regionP rfl ?_
    refine R.loadA t24 hB3 rfl rfl rfl trivial ?_
    refine R.move ?_
    refine R.callE2 ent73 (begin0 _ (hm.ext hE) (ho.ext hE) hl hx hol' hb) rfl rfl nofun ?_
    rintro v16 w2 hx2 rfl
    replace hB3 := hB3.ext hx2
    replace hE := hE.ext hx2
    refine R.move ?_
    refine R.extract rfl rfl ?_
    refine R.extract rfl rfl ?_
    refine R.assign ?_
    refine R.assign ?_
    refine R.nil ?_
    refine E.seq ?_
    refine E.block ?_
    refine E.seq ?_
    refine E.regionP rfl ?_
    refine R.move ?_
    refine R.not rfl ?_
    refine R.assign ?_
    refine R.nil ?_
    refine E.condT rfl ?_
    refine E.seq ?_
    refine E.regionP rfl ?_
    refine R.assign ?_
    refine R.assign ?_
    refine R.nil ?_
    refine E.ret ?_
    exact ret2 (.int .i64 0) (.int .i64 2) rfl rfl rfl ⟨_, rfl, hE, by simp [checkR, hb]⟩
end Go.Proofs.Ytfdmndkoiheebaa
