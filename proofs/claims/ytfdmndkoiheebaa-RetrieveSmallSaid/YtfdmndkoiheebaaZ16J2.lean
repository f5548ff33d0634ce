import Derived.Test.YtfdmndkoiheebaaZ16J1
namespace Go.Proofs.Ytfdmndkoiheebaa
open Go Go.RowKit
def wayR (ord : List Int) : Nat → List Int → Nat
  | _, [] => 0
  | least, b :: bs => if least < rankL ord b then 1 + wayR ord least bs else wayR ord (rankL ord b) bs
def wayL (ord : List Int) (xss : List (List Int)) : Nat := (xss.map (wayR ord ord.length)).sum
theorem wayR_le (ord : List Int) : ∀ (l : List Int) (k : Nat), wayR ord k l ≤ l.length
  | [], _ => Nat.le_refl _
  | b :: bs, k => by
    simp only [wayR, List.length_cons]
    split
    · have := wayR_le ord bs k; omega
    · have := wayR_le ord bs (rankL ord b); omega
theorem wayL_drop {ord : List Int} {xss : List (List Int)} {i : Nat} (h : i < xss.length) : wayL ord (xss.drop i) = wayR ord ord.length xss[i] + wayL ord (xss.drop (i + 1)) := by
  rw [List.drop_eq_getElem_cons h]; simp only [wayL, List.map_cons, List.sum_cons]
theorem wayR_drop {ord l : List Int} {k least : Nat} (h : k < l.length) : wayR ord least (l.drop k) = if least < rankL ord l[k] then 1 + wayR ord least (l.drop (k + 1)) else wayR ord (rankL ord l[k]) (l.drop (k + 1)) := by
  rw [List.drop_eq_getElem_cons h]; rfl
theorem wayL_le (ord : List Int) : ∀ (xss : List (List Int)) (m : Nat), (∀ xs ∈ xss, xs.length ≤ m) → wayL ord xss ≤ xss.length * m
  | [], _, _ => by simp [wayL]
  | x :: xss, m, h => by
    have h1 := wayL_le ord xss m (fun xs hx => h xs (List.mem_cons_of_mem _ hx))
    have h2 := wayR_le ord x ord.length
    have h3 := h x List.mem_cons_self
    simp only [wayL, List.map_cons, List.sum_cons, List.length_cons, Nat.add_mul, Nat.one_mul] at *
    omega
theorem rank_ (w : World) {b900 H rm nx : Nat} {vs vo vt : Value} {ord : List Int} {b : Int} (hB900 : Blk w b900 108 #[vs, .int .i64 H, vo, .map (some rm), vt, .int .i64 nx]) (ho : Ints w vo ord) (hrk : Ranks w rm ord) :
    Calls Try.prog 96 #[.pointer (some ⟨b900, 0, none⟩), .int .i64 b] w (Ret fun r w' => Ext w w' ∧ r = .int .i64 (rankL ord b : Nat)) := by
  obtain ⟨M, hM1, hM2⟩ := hrk
  refine calls_E (args := [.pointer (some ⟨b900, 0, none⟩), .int .i64 b]) 23 Try.func96 rfl rfl (by simp) ?_
  have hE : Ext w w := Upd.refl w
  refine E.seq ?_
  refine E.regionP rfl ?_
  refine R.assign ?_
  refine R.nil ?_
  refine E.seq ?_
  refine E.seq ?_
  refine E.regionP rfl ?_
  refine R.move ?_
  refine R.nilCheck rfl ?_
  refine R.fld fa108_3 rfl ?_
  refine R.loadB t97 hB900 rfl rfl rfl trivial ?_
  refine R.move ?_
  refine R.lookOk Try.underlying97 Try.underlying3 t3 (hM1.ext hE) rfl rfl trivial ?_
  rw [hM2 b]
  refine R.move ?_
  refine R.extract rfl rfl ?_
  refine R.extract rfl rfl ?_
  refine R.assign ?_
  refine R.assign ?_
  refine R.nil ?_
  refine E.seq ?_
  rcases Decidable.em (b ∈ ord) with hb | hb
  · refine E.regionP rfl ?_
    refine R.mv (.bool true) (by show Value.bool _ = _; simp [hb]) ?_
    refine R.nil ?_
    refine E.condT rfl ?_
    refine E.seq ?_
    refine E.regionP rfl ?_
    refine R.move ?_
    refine R.assign ?_
    refine R.nil ?_
    refine E.ret ?_
    exact ret1 (.int .i64 (rankL ord b : Nat)) rfl (by show Value.int _ _ = _; simp [rankL, hb]) ⟨_, rfl, hE, rfl⟩
  · refine E.regionP rfl ?_
    refine R.mv (.bool false) (by show Value.bool _ = _; simp [hb]) ?_
    refine R.nil ?_
    refine E.condF rfl ?_
    refine E.skip ?_
    refine E.seq ?_
    refine E.regionP rfl ?_
    refine R.move ?_
    refine R.nilCheck rfl ?_
    refine R.fld fa108_2 rfl ?_
    refine R.loadB t35 hB900 rfl rfl rfl trivial ?_
    refine R.len Try.underlying35 ho rfl ?_
    refine R.assign ?_
    refine R.nil ?_
    refine E.ret ?_
    exact ret1 (.int .i64 (rankL ord b : Nat)) rfl (by show Value.int _ _ = _; simp [rankL, hb]) ⟨_, rfl, hE, rfl⟩
set_option maxHeartbeats 1600000 in
theorem way_ (w : World) {b900 H rm nx : Nat} {vs vo vt : Value} {ord : List Int} {us : List Value} {xss : List (List Int)} (hB900 : Blk w b900 108 #[vs, .int .i64 H, vo, .map (some rm), vt, .int .i64 nx]) (hm : Mat w vs us xss) (ho : Ints w vo ord) (hrk : Ranks w rm ord) (hl : xss.length ≤ 30) (hx : ∀ xs ∈ xss, xs.length ≤ 6) :
    Calls Try.prog 80 #[.pointer (some ⟨b900, 0, none⟩)] w (Ret fun r w' => Ext w w' ∧ r = .int .i64 (wayL ord xss : Nat)) := by
  have hwl := wayL_le ord xss 6 hx
  refine calls_E (args := [.pointer (some ⟨b900, 0, none⟩)]) 42 Try.func80 rfl rfl (by simp) ?_
  have hE : Ext w w := Upd.refl w
  refine E.seq ?_
  refine E.regionP rfl ?_
  refine R.assign ?_
  refine R.nil ?_
  refine E.seq ?_
  refine E.regionP rfl ?_
  refine R.assign ?_
  refine R.nil ?_
  refine E.seq ?_
  refine E.seq ?_
  refine E.regionP rfl ?_
  refine R.move ?_
  refine R.nilCheck rfl ?_
  refine R.fld fa108_0 rfl ?_
  refine R.loadB t22 hB900 rfl rfl rfl trivial ?_
  refine R.len Try.underlying22 hm.row rfl ?_
  refine R.move ?_
  refine R.nil ?_
  refine E.block ?_
  refine E.loop (fun n e wr => ∃ (i q : Nat), n = xss.length - i ∧ i ≤ xss.length ∧ q + wayL ord (xss.drop i) = wayL ord xss ∧ Ext w wr ∧ Blk wr b900 108 #[vs, .int .i64 H, vo, .map (some rm), vt, .int .i64 nx] ∧ Has e [(0, .pointer (some ⟨b900, 0, none⟩)), (3, .int .i64 (q : Nat)), (13, vs), (14, .int .i64 xss.length), (15, .int .i64 (i : Nat))]) (xss.length) ?_ ?_
  · exact ⟨0, 0, rfl, Nat.zero_le _, by simp, hE, hB900, rfl, rfl, rfl, rfl, rfl, trivial⟩
  · rintro n e wr ⟨i, q, rfl, hi, hq, hE, hB900, hH⟩
    obtain ⟨e, rfl⟩ := hH.ex
    clear hH
    refine E.seq ?_
    refine E.regionP rfl ?_
    refine R.lss rfl rfl rfl ?_
    refine R.nil ?_
    refine E.seq ?_
    refine E.cond rfl (fun hc16 => ?_) (fun hc16 => ?_)
    · replace hc16 := dT hc16
      have hi1 : i < xss.length := by omega
      rw [wayL_drop hi1] at hq
      have hxi := hx _ (List.getElem_mem hi1)
      refine E.skip ?_
      refine E.seq ?_
      refine E.block ?_
      refine E.seq ?_
      refine E.regionP rfl ?_
      refine R.ix Try.underlying22 t35 (by decide) hm.row rfl rfl (by omega) ?_
      obtain ⟨u18, hu18, hr18⟩ := hm.get i (by omega)
      refine R.ld t35 (hm.row.ext hE) rfl hu18 rfl (fun _ _ => trivial) ?_
      refine R.assign ?_
      refine R.nil ?_
      refine E.seq ?_
      refine E.regionP rfl ?_
      refine R.move ?_
      refine R.nilCheck rfl ?_
      refine R.fld fa108_2 rfl ?_
      refine R.loadB t35 hB900 rfl rfl rfl trivial ?_
      refine R.len Try.underlying35 ho rfl ?_
      refine R.assign ?_
      refine R.nil ?_
      refine E.seq ?_
      refine E.regionP rfl ?_
      refine R.move ?_
      refine R.len Try.underlying35 hr18 rfl ?_
      refine R.move ?_
      refine R.nil ?_
      refine E.block ?_
      refine E.loop (fun n e wr => ∃ (k q least : Nat), n = xss[i].length - k ∧ k ≤ xss[i].length ∧ q + (wayR ord least (xss[i].drop k) + wayL ord (xss.drop (i + 1))) = wayL ord xss ∧ Ext w wr ∧ Blk wr b900 108 #[vs, .int .i64 H, vo, .map (some rm), vt, .int .i64 nx] ∧ Has e [(0, .pointer (some ⟨b900, 0, none⟩)), (3, .int .i64 (q : Nat)), (6, .int .i64 (least : Nat)), (13, vs), (14, .int .i64 xss.length), (15, .int .i64 (i : Nat)), (24, u18), (25, .int .i64 xss[i].length), (26, .int .i64 (k : Nat))]) (xss[i].length) ?_ ?_
      · exact ⟨0, q, ord.length, rfl, Nat.zero_le _, by simpa using hq, hE, hB900, rfl, rfl, rfl, rfl, rfl, rfl, rfl, rfl, rfl, trivial⟩
      · rintro n e wr ⟨k, q, least, rfl, hk, hq2, hE, hB900, hH⟩
        obtain ⟨e, rfl⟩ := hH.ex
        clear hH
        refine E.seq ?_
        refine E.regionP rfl ?_
        refine R.lss rfl rfl rfl ?_
        refine R.nil ?_
        refine E.seq ?_
        refine E.cond rfl (fun hc27 => ?_) (fun hc27 => ?_)
        · replace hc27 := dT hc27
          have hk1 : k < xss[i].length := by omega
          rw [wayR_drop hk1] at hq2
          refine E.skip ?_
          refine E.seq ?_
          refine E.block ?_
          refine E.seq ?_
          refine E.regionP rfl ?_
          refine R.ix Try.underlying35 t3 (by decide) hr18 rfl rfl (by omega) ?_
          refine R.ld t3 (hr18.ext hE) rfl (int_at (by omega)) rfl (fun _ _ => trivial) ?_
          refine R.assign ?_
          refine R.nil ?_
          refine E.seq ?_
          refine E.regionP rfl ?_
          refine R.move ?_
          refine R.move ?_
          refine R.callE2 ent96 (rank_ _ hB900 (ho.ext hE) (hrk.ext hE)) rfl rfl nofun ?_
          rintro v32 w1 hx1 rfl
          replace hB900 := hB900.ext hx1
          replace hE := hE.ext hx1
          refine R.assign ?_
          refine R.nil ?_
          refine E.seq ?_
          refine E.regionP rfl ?_
          refine R.move ?_
          refine R.move ?_
          refine R.gtr rfl rfl rfl ?_
          refine R.nil ?_
          refine E.cond rfl (fun hc35 => ?_) (fun hc35 => ?_)
          · replace hc35 := dT hc35
            have hc35x : least < rankL ord xss[i][k] := by omega
            rw [if_pos hc35x] at hq2
            refine E.regionP rfl ?_
            refine R.move ?_
            refine R.addN (m := q) (n := 1) rfl rfl (by omega) ?_
            refine R.assign ?_
            refine R.nil ?_
            refine E.regionP rfl ?_
            refine R.addN (n := 1) rfl rfl (by omega) ?_
            refine R.move ?_
            refine R.nil ?_
            exact ⟨xss[i].length - (k + 1), by omega, k + 1, q + 1, least, rfl, by omega, by omega, hE, hB900, rfl, rfl, rfl, rfl, rfl, rfl, rfl, rfl, rfl, trivial⟩
          · replace hc35 := dF hc35
            have hc35x : ¬ least < rankL ord xss[i][k] := by omega
            rw [if_neg hc35x] at hq2
            refine E.regionP rfl ?_
            refine R.move ?_
            refine R.assign ?_
            refine R.nil ?_
            refine E.regionP rfl ?_
            refine R.addN (n := 1) rfl rfl (by omega) ?_
            refine R.move ?_
            refine R.nil ?_
            exact ⟨xss[i].length - (k + 1), by omega, k + 1, q, rankL ord xss[i][k], rfl, by omega, by omega, hE, hB900, rfl, rfl, rfl, rfl, rfl, rfl, rfl, rfl, rfl, trivial⟩
        · replace hc27 := dF hc27
          refine E.exit ?_
          refine E.regionP rfl ?_
          refine R.addN (n := 1) rfl rfl (by omega) ?_
          refine R.move ?_
          refine R.nil ?_
          obtain rfl : k = xss[i].length := by omega
          rw [List.drop_length] at hq2
          exact ⟨xss.length - (i + 1), by omega, i + 1, q, rfl, by omega, by simp only [wayR] at hq2; omega, hE, hB900, rfl, rfl, rfl, rfl, rfl, trivial⟩
    · replace hc16 := dF hc16
      refine E.exit ?_
      refine E.seq ?_
      refine E.regionP rfl ?_
      refine R.move ?_
      refine R.assign ?_
      refine R.nil ?_
      refine E.ret ?_
      obtain rfl : i = xss.length := by omega
      rw [List.drop_length] at hq
      obtain rfl : q = wayL ord xss := by simp [wayL] at hq; simpa [wayL] using hq
      exact ret1 (.int .i64 (wayL ord xss : Nat)) rfl rfl ⟨_, rfl, hE, rfl⟩
theorem yRank (w : World) {v : Value} {ord : List Int} {b : Int} (h : Ints w v ord) (hl : ord.length < 1000000000) :
    Calls Try.prog 85 #[v, .int .i64 b] w (Ret fun r w' => Ext w w' ∧ r = .int .i64 (rankL ord b : Nat)) := by
  rcases Decidable.em (b ∈ ord) with hb | hb
  · refine calls_E (args := [v, .int .i64 b]) 14 Try.func85 rfl rfl (by simp) ?_
    have hE : Ext w w := Upd.refl w
    refine E.seq ?_
    refine E.regionP rfl ?_
    refine R.assign ?_
    refine R.nil ?_
    refine E.seq ?_
    refine E.seq ?_
    refine E.regionP rfl ?_
    refine R.move ?_
    refine R.move ?_
    refine R.callE2 ent61 (sIndex _ (b := b) (h.ext hE) hl) rfl rfl nofun ?_
    rintro v8 w1 hx1 rfl
    rw [show indexL ord b = (ord.idxOf b : Int) by simp [indexL, hb]]
    replace hE := hE.ext hx1
    refine R.assign ?_
    refine R.nil ?_
    refine E.seq ?_
    refine E.regionP rfl ?_
    refine R.move ?_
    refine R.geq (b := true) rfl rfl (decide_eq_true (by omega)) ?_
    refine R.nil ?_
    refine E.condT rfl ?_
    refine E.seq ?_
    refine E.regionP rfl ?_
    refine R.move ?_
    refine R.assign ?_
    refine R.nil ?_
    refine E.ret ?_
    exact ret1 (.int .i64 (ord.idxOf b : Int)) rfl rfl ⟨_, rfl, hE, by simp [rankL, hb]⟩
  · refine calls_E (args := [v, .int .i64 b]) 14 Try.func85 rfl rfl (by simp) ?_
    have hE : Ext w w := Upd.refl w
    refine E.seq ?_
    refine E.regionP rfl ?_
    refine R.assign ?_
    refine R.nil ?_
    refine E.seq ?_
    refine E.seq ?_
    refine E.regionP rfl ?_
    refine R.move ?_
    refine R.move ?_
    refine R.callE2 ent61 (sIndex _ (b := b) (h.ext hE) hl) rfl rfl nofun ?_
    rintro v8 w1 hx1 rfl
    rw [show indexL ord b = -1 by simp [indexL, hb]]
    replace hE := hE.ext hx1
    refine R.assign ?_
    refine R.nil ?_
    refine E.seq ?_
    refine E.regionP rfl ?_
    refine R.move ?_
    refine R.geq (b := false) rfl rfl (decide_eq_false (by omega)) ?_
    refine R.nil ?_
    refine E.condF rfl ?_
    refine E.skip ?_
    refine E.seq ?_
    refine E.regionP rfl ?_
    refine R.move ?_
    refine R.len Try.underlying35 h rfl ?_
    refine R.assign ?_
    refine R.nil ?_
    refine E.ret ?_
    exact ret1 (.int .i64 (ord.length : Nat)) rfl rfl ⟨_, rfl, hE, by simp [rankL, hb]⟩
theorem begin0 (w : World) {v vo : Value} {h : Int} {us : List Value} {xss : List (List Int)} {ord : List Int} (hm : Mat w v us xss) (ho : Ints w vo ord) (hl : xss.length < 1000000) (hx : ∀ xs ∈ xss, xs.length < 1000000) (hol : ord.length < 1000000000) (hb : beginB xss h ord = false) :
    Calls Try.prog 73 #[.agg #[v, .int .i64 h], vo] w (Ret fun r w' => Ext w w' ∧ r = .tuple #[.pointer none, .bool false]) :=
  (begin_ w hm ho hl hx hol).mono fun _ _ ⟨v, h1, h2, h3⟩ => ⟨v, h1, h2, by rcases h3 with ⟨_, h3⟩ | ⟨h3, _⟩; (exact h3); simp [hb] at h3⟩
theorem begin1 (w : World) {v vo : Value} {H : Nat} {us : List Value} {xss : List (List Int)} {ord : List Int} (hm : Mat w v us xss) (ho : Ints w vo ord) (hl : xss.length < 1000000) (hx : ∀ xs ∈ xss, xs.length < 1000000) (hol : ord.length < 1000000000) (hb : beginB xss H ord = true) :
    Calls Try.prog 73 #[.agg #[v, .int .i64 H], vo] w (Ret fun r w' => Ext w w' ∧ ∃ bj vs us rm vt, r = .tuple #[.pointer (some ⟨bj, 0, none⟩), .bool true] ∧ Job w w' bj vs us vo rm vt xss H ord [] 0) :=
  (begin_ w hm ho hl hx hol).mono fun _ _ ⟨v, h1, h2, h3⟩ => ⟨v, h1, h2, by
    rcases h3 with ⟨h3, _⟩ | ⟨_, bj, vs, us, rm, vt, H', e, h4, h5⟩
    · simp [hb] at h3
    · obtain rfl : H = H' := by omega
      exact ⟨bj, vs, us, rm, vt, h4, h5⟩⟩
theorem beginB_right {xss : List (List Int)} {h : Int} {ord : List Int} (hb : beginB xss h ord = true) : RightP xss h ∧ OrdP xss ord := by
  simp only [beginB, Bool.and_eq_true, decide_eq_true_eq] at hb
  exact ⟨rightB_true.1 hb.1, hb.2⟩
def boundR (xss : List (List Int)) (h : Int) (ord : List Int) : Nat × Int := if beginB xss h ord then (wayL ord xss, 0) else (0, 2)
theorem yBound (w : World) {v vo : Value} {h : Int} {us : List Value} {xss : List (List Int)} {ord : List Int} (hm : Mat w v us xss) (ho : Ints w vo ord) (hl : xss.length < 1000000) (hx : ∀ xs ∈ xss, xs.length < 1000000) (hol : ord.length < 1000000000) :
    Calls Try.prog 44 #[.agg #[v, .int .i64 h], vo] w (Ret fun r w' => Ext w w' ∧ r = .tuple #[.int .i64 ((boundR xss h ord).1 : Nat), .int .i64 (boundR xss h ord).2]) := by
  cases hb : beginB xss h ord
  rotate_left
  · obtain ⟨hRP, hOP⟩ := beginB_right hb
    obtain ⟨H, rfl, hH0, hH6, hl30, hl1, hxH⟩ := rightB_nat hRP.b
    have hx6 : ∀ xs ∈ xss, xs.length ≤ 6 := fun xs h => by have := hxH xs h; omega
    refine calls_E (args := [.agg #[v, .int .i64 H], vo]) 18 Try.func44 rfl rfl (by simp) ?_
    have hE : Ext w w := Upd.refl w
    refine E.seq ?_
    refine E.regionP rfl ?_
    refine R.box rfl nofun ?_
    intro b2 w1 hb2 hx1 hB2
    replace hb2 := Nat.le_trans hE.size hb2
    replace hE := hE.ext hx1
    replace hB2 : Blk _ b2 24 #[v, .int .i64 H] := hB2
    refine R.assign ?_
    refine R.assign ?_
    refine R.nil ?_
    refine E.seq ?_
    refine E.regionP rfl ?_
    refine R.loadA t24 hB2 rfl rfl rfl trivial ?_
    refine R.move ?_
    refine R.callE2 ent73 (begin1 _ (hm.ext hE) (ho.ext hE) hl hx hol hb) rfl rfl nofun ?_
    rintro v11 w2 hx2 ⟨bj, vs, us1, rm, vt, rfl, hJ⟩
    replace hB2 := hB2.ext hx2
    replace hE := hE.ext hx2
    refine R.move ?_
    refine R.extract rfl rfl ?_
    refine R.extract rfl rfl ?_
    refine R.assign ?_
    refine R.assign ?_
    refine R.nil ?_
    refine E.seq ?_
    refine E.seq ?_
    refine E.regionP rfl ?_
    refine R.move ?_
    refine R.not rfl ?_
    refine R.nil ?_
    refine E.condF rfl ?_
    refine E.skip ?_
    refine E.seq ?_
    refine E.regionP rfl ?_
    refine R.move ?_
    refine R.callE1 ent80 (way_ _ hJ.blk hJ.ms.mat (hJ.ordI.ext hJ.ext) hJ.ranks hl30 hx6) rfl nofun ?_
    rintro v17 w3 hx3 rfl
    replace hB2 := hB2.ext hx3
    replace hE := hE.ext hx3
    refine R.assign ?_
    refine R.assign ?_
    refine R.nil ?_
    refine E.ret ?_
    exact ret2 (.int .i64 (wayL ord xss : Nat)) (.int .i64 0) rfl rfl rfl ⟨_, rfl, hE, by simp [boundR, hb]⟩
  · refine calls_E (args := [.agg #[v, .int .i64 h], vo]) 18 Try.func44 rfl rfl (by simp) ?_
    have hE : Ext w w := Upd.refl w
    refine E.seq ?_
    refine E.regionP rfl ?_
    refine R.box rfl nofun ?_
    intro b2 w1 hb2 hx1 hB2
    replace hb2 := Nat.le_trans hE.size hb2
    replace hE := hE.ext hx1
    replace hB2 : Blk _ b2 24 #[v, .int .i64 h] := hB2
    refine R.assign ?_
    refine R.assign ?_
    refine R.nil ?_
    refine E.seq ?_
    refine E.regionP rfl ?_
    refine R.loadA t24 hB2 rfl rfl rfl trivial ?_
    refine R.move ?_
    refine R.callE2 ent73 (begin0 _ (hm.ext hE) (ho.ext hE) hl hx hol hb) rfl rfl nofun ?_
    rintro v11 w2 hx2 rfl
    replace hB2 := hB2.ext hx2
    replace hE := hE.ext hx2
    refine R.move ?_
    refine R.extract rfl rfl ?_
    refine R.extract rfl rfl ?_
    refine R.assign ?_
    refine R.assign ?_
    refine R.nil ?_
    refine E.seq ?_
    refine E.seq ?_
    refine E.regionP rfl ?_
    refine R.move ?_
    refine R.not rfl ?_
    refine R.nil ?_
    refine E.condT rfl ?_
    refine E.seq ?_
    refine E.regionP rfl ?_
    refine R.assign ?_
    refine R.assign ?_
    refine R.nil ?_
    refine E.ret ?_
    exact ret2 (.int .i64 0) (.int .i64 2) rfl rfl rfl ⟨_, rfl, hE, by simp [boundR, hb]⟩
end Go.Proofs.Ytfdmndkoiheebaa
