import Derived.Test.YtfdmndkoiheebaaZ16G2
namespace Go.Proofs.Ytfdmndkoiheebaa
open Go Go.RowKit
def OrdP (xss : List (List Int)) (ord : List Int) : Prop := ord.Nodup ∧ ∀ b ∈ ord, b ∈ xss.flatten
instance (xss : List (List Int)) (ord : List Int) : Decidable (OrdP xss ord) := inferInstanceAs (Decidable (_ ∧ _))
def beginB (xss : List (List Int)) (h : Int) (ord : List Int) : Bool := rightB xss h && decide (OrdP xss ord)
theorem OrdP.nil {xss : List (List Int)} : OrdP xss [] := ⟨by simp, by simp⟩
theorem OrdP.snoc {xss : List (List Int)} {l : List Int} {b : Int} (h : OrdP xss l) (h1 : b ∉ l) (h2 : b ∈ xss.flatten) : OrdP xss (l ++ [b]) := ⟨by
  rw [List.nodup_append]
  exact ⟨h.1, by simp, fun x hx y hy e => by simp at hy; subst hy; exact h1 (e ▸ hx)⟩, fun x hx => by
  rcases List.mem_append.1 hx with hx | hx
  · exact h.2 x hx
  · simp at hx; subst hx; exact h2⟩
theorem OrdP.take {xss : List (List Int)} {ord : List Int} {i : Nat} (h : OrdP xss ord) (hi : i < ord.length) : ord[i] ∉ ord.take i ∧ ord[i] ∈ xss.flatten := by
  refine ⟨fun hm => ?_, h.2 _ (List.getElem_mem hi)⟩
  have hn := h.1
  rw [← List.take_append_drop i ord, List.drop_eq_getElem_cons hi, List.nodup_append] at hn
  exact hn.2.2 _ hm _ List.mem_cons_self rfl
theorem MS.upM {w0 w w' : World} {v : Value} {us : List Value} {xss : List (List Int)} {r : Nat} {M : List (Int × Int)} (h : MS w0 w v us xss) (hM : MapI w r M) (u : Upd (one r) w w') : MS w0 w' v us xss :=
  ⟨⟨h.outer.up u fun b e e1 => by obtain ⟨c, q⟩ := h.outer.blk e; have e2 : b = r := e1; subst e2; exact hM.ne q rfl, fun i hi => by
    obtain ⟨y, q1, q2⟩ := h.mo.elems i hi
    exact ⟨y, q1, q2.up u fun b e e1 => by obtain ⟨c, q⟩ := q2.blk e; have e2 : b = r := e1; subst e2; exact hM.ne q rfl⟩⟩, h.f, h.fs, h.sep⟩
def BRes (w w' : World) (r : Value) (vo : Value) (xss : List (List Int)) (h : Int) (ord : List Int) : Prop :=
  (beginB xss h ord = false ∧ r = .tuple #[.pointer none, .bool false]) ∨
  (beginB xss h ord = true ∧ ∃ bj vs us rm vt H, h = ((H : Nat) : Int) ∧ r = .tuple #[.pointer (some ⟨bj, 0, none⟩), .bool true] ∧ Job w w' bj vs us vo rm vt xss H ord [] 0)
theorem rightB_findV {xss : List (List Int)} {b : Int} : ∃ x y : Int, findV xss b = .tuple #[.int .i64 x, .int .i64 y, .bool (decide (b ∈ xss.flatten))] := by
  rcases hF : findL xss b with _ | ⟨p, q⟩
  · exact ⟨0, 0, by simp only [findV, hF]; simp [findL_none hF]⟩
  · obtain ⟨hi, hk, hb, _⟩ := findL_some hF
    have : b ∈ xss.flatten := List.mem_flatten.2 ⟨_, List.getElem_mem hi, by rw [← hb]; exact List.getElem_mem hk⟩
    exact ⟨p, q, by simp only [findV, hF]; simp [this]⟩
set_option maxHeartbeats 3200000 in
theorem begin_ (w : World) {v vo : Value} {h : Int} {us : List Value} {xss : List (List Int)} {ord : List Int} (hm : Mat w v us xss) (ho : Ints w vo ord) (hl : xss.length < 1000000) (hx : ∀ xs ∈ xss, xs.length < 1000000) (hol : ord.length < 1000000000) :
    Calls Try.prog 73 #[.agg #[v, .int .i64 h], vo] w (Ret fun r w' => Ext w w' ∧ BRes w w' r vo xss h ord) := by
  cases hR : rightB xss h
  rotate_left
  · obtain ⟨H, rfl, hH0, hH6, hl30, hl1, hxH⟩ := rightB_nat hR
    refine calls_E (args := [.agg #[v, .int .i64 H], vo]) 80 Try.func73 rfl rfl (by simp) ?_
    have hE : Ext w w := Upd.refl w
    refine E.seq ?_
    refine E.regionP rfl ?_
    refine R.box rfl nofun ?_
    intro b2 w1 hb2 hx1 hB2
    replace hb2 := Nat.le_trans hE.size hb2
    replace hE := hE.ext hx1
    replace hB2 : Blk _ b2 24 #[v, .int .i64 H] := hB2
    refine R.assign ?_
    refine R.assign ?_
    refine R.nil ?_
    refine E.seq ?_
    refine E.seq ?_
    refine E.regionP rfl ?_
    refine R.loadA t24 hB2 rfl rfl rfl trivial ?_
    refine R.callE1 ent27 (right _ (hm.ext hE) hl hx) rfl nofun ?_
    rintro v17 w2 hx2 rfl
    rw [hR]
    replace hB2 := hB2.ext hx2
    replace hE := hE.ext hx2
    refine R.not rfl ?_
    refine R.nil ?_
    refine E.condF rfl ?_
    refine E.skip ?_
    refine E.seq ?_
    refine E.regionP rfl ?_
    refine R.fld fa24_1 rfl ?_
    refine R.loadB t3 hB2 rfl rfl rfl trivial ?_
    refine R.move ?_
    refine R.makeMap nofun ?_
    intro rm w22 hrm hx22 hJm0
    replace hrm := Nat.le_trans hE.size hrm
    replace hB2 := hB2.ext hx22
    replace hE := hE.ext hx22
    have hJm : Ranks _ rm (ord.take 0) := ⟨[], hJm0, by simpa using RankM.nil⟩
    refine R.build (build108 rfl ho.one rfl) rfl ?_
    refine R.box rfl nofun ?_
    intro b24 w3 hb24 hx3 hB24
    replace hb24 := Nat.le_trans hE.size hb24
    replace hJm := hJm.ext hx3
    replace hB2 := hB2.ext hx3
    replace hE := hE.ext hx3
    replace hB24 : Blk _ b24 108 #[.slice none 0 0, .int .i64 H, vo, .map (some rm), .slice none 0 0, .int .i64 0] := hB24
    refine R.assign ?_
    refine R.nil ?_
    refine E.seq ?_
    refine E.seq ?_
    refine E.regionP rfl ?_
    refine R.fld fa24_0 rfl ?_
    refine R.loadB t22 hB2 rfl rfl rfl trivial ?_
    refine R.len Try.underlying22 hm.row rfl ?_
    refine R.move ?_
    refine R.nil ?_
    refine E.block ?_
    refine E.loop (fun n e wr => ∃ (i : Nat) (ov : Value) (us1 : List Value), n = xss.length - i ∧ i ≤ xss.length ∧ Ext w wr ∧ MS w wr ov us1 (xss.take i) ∧ Ranks wr rm (ord.take 0) ∧ Blk wr b2 24 #[v, .int .i64 H] ∧ Blk wr b24 108 #[ov, .int .i64 H, vo, .map (some rm), .slice none 0 0, .int .i64 0] ∧ Has e [(1, vo), (2, .pointer (some ⟨b2, 0, none⟩)), (6, .pointer (some ⟨b24, 0, none⟩)), (26, v), (27, .int .i64 xss.length), (28, .int .i64 (i : Nat))]) (xss.length) ?_ ?_
    · exact ⟨0, _, [], rfl, Nat.zero_le _, hE, ⟨MO.nil _, Fresh.nil _, by simp, by simp⟩, hJm, hB2, hB24, rfl, rfl, rfl, rfl, rfl, rfl, trivial⟩
    · rintro n e wr ⟨i, ov, us1, rfl, hi, hE, hM, hJm, hB2, hB24, hH⟩
      obtain ⟨e, rfl⟩ := hH.ex
      clear hH
      refine E.seq ?_
      refine E.regionP rfl ?_
      refine R.lss rfl rfl rfl ?_
      refine R.nil ?_
      refine E.seq ?_
      refine E.cond rfl (fun hc29 => ?_) (fun hc29 => ?_)
      · replace hc29 := dT hc29
        have hi1 : i < xss.length := by omega
        have hxi := hx _ (List.getElem_mem hi1)
        have hmin : min i xss.length = i := by omega
        have hf := hM.f
        refine E.skip ?_
        refine E.seq ?_
        refine E.block ?_
        refine E.seq ?_
        refine E.regionP rfl ?_
        refine R.ix Try.underlying22 t35 (by decide) hm.row rfl rfl (by omega) ?_
        obtain ⟨u31, hu31, hr31⟩ := hm.get i (by omega)
        refine R.ld t35 (hm.row.ext hE) rfl hu31 rfl (fun _ _ => trivial) ?_
        refine R.assign ?_
        refine R.nil ?_
        have hW0 := hE.size
        refine E.regionF (fun c x => x < wr.heap.size ∧ (c = false → x ≠ b24 ∧ vblk ov ≠ some x)) [36] [38] mixed rfl (by kernel_rfl) (fun _ _ h => h.1) ?_
        intro w4 hx4 hh4
        replace hM := hM.ext hx4
        replace hJm := hJm.ext hx4
        replace hB2 := hB2.ext hx4
        replace hB24 := hB24.ext hx4
        replace hE := hE.ext hx4
        have hEs : Ext w4 w4 := Upd.refl _
        have hS0 := hx4.size
        have hSB : ∀ b, b < w4.heap.size → b < wr.heap.size ∧ (true = false → (fun x => x ≠ b24 ∧ vblk ov ≠ some x) b) := fun b hb => ⟨by rw [hh4] at hb; exact hb, nofun⟩
        have hSA : ∀ b, b < w4.heap.size → (fun x => x ≠ b24 ∧ vblk ov ≠ some x) b → b < wr.heap.size ∧ (false = false → (fun x => x ≠ b24 ∧ vblk ov ≠ some x) b) := fun b hb h => ⟨by rw [hh4] at hb; exact hb, fun _ => h⟩
        have hSO : ∀ b, b < w.heap.size → b < wr.heap.size ∧ (false = false → (fun x => x ≠ b24 ∧ vblk ov ≠ some x) b) := fun b hb => hSA b (Nat.lt_of_lt_of_le hb hE.size) (⟨fun e => by omega, fun e => by have := hf b e; omega⟩)
        have hMs := hM
        have hJms := hJm
        have hB2s := hB2
        have hB24s := hB24
        refine G.q rfl (Nat.le_of_ble_eq_true rfl) ?_
        refine R.move ?_
        refine R.nil ?_
        refine G.q rfl (Nat.le_of_ble_eq_true rfl) ?_
        refine R.move ?_
        refine R.nil ?_
        refine G.q rfl (Nat.le_of_ble_eq_true rfl) ?_
        refine R.nilCheck rfl ?_
        refine R.nil ?_
        refine G.q rfl (Nat.le_of_ble_eq_true rfl) ?_
        refine R.fld fa108_0 rfl ?_
        refine R.nil ?_
        refine G.q rfl (Nat.le_of_ble_eq_true rfl) ?_
        refine R.loadB t22 hB24 rfl rfl rfl (hSB b24 hB24s.lt) ?_
        refine R.nil ?_
        refine G.q rfl (Nat.le_of_ble_eq_true rfl) ?_
        refine R.move ?_
        refine R.nil ?_
        refine G.l rfl rfl (.inl rfl) (Nat.le_of_ble_eq_true rfl) ?_
        intro w5 hx5
        replace hM := hM.ext hx5
        replace hJm := hJm.ext hx5
        replace hB2 := hB2.ext hx5
        replace hB24 := hB24.ext hx5
        replace hE := hE.ext hx5
        replace hEs := hEs.ext hx5
        refine R.callE1 ent62 (sClone _ (hr31.ext hE) (by omega)) rfl (fun _ _ hb => G.S1_lt (fun _ _ h => h.1) (Nat.le_trans hS0 hEs.size) hb) ?_
        rintro v38 w6 hx6 ⟨hS38, hf38⟩
        have hsep38 : ∀ b, vblk v38 = some b → ∀ y ∈ us1, vblk y ≠ some b := fun b e y hy e2 => by have h1 := hf38 b e; have h2 := hMs.row_lt hy e2; have h3 := hEs.size; omega
        have hfw38 : Fresh w v38 := hf38.mono hE.size
        replace hM := hM.ext hx6
        replace hJm := hJm.ext hx6
        replace hB2 := hB2.ext hx6
        replace hB24 := hB24.ext hx6
        replace hE := hE.ext hx6
        replace hEs := hEs.ext hx6
        refine R.nil ⟨hx6.size, ?_⟩
        intro K5 hK5 hN5
        have hkk := hS38
        refine G.buildSlice [v38] Try.underlying22 t35 rfl rfl (by simp [cells_one hS38.one]) (by simp) ?_
        intro w7 b39 K7 hx7 hb39 hn39 hK7 hk39 hS39
        have hn039 := hb39
        replace hb39 := Nat.le_trans hW0 hb39
        replace hM := hM.ext hx7
        replace hJm := hJm.ext hx7
        replace hS38 := hS38.ext hx7
        replace hB2 := hB2.ext hx7
        replace hB24 := hB24.ext hx7
        replace hE := hE.ext hx7
        replace hEs := hEs.ext hx7
        refine G.l rfl rfl (.inr rfl) (Nat.le_of_ble_eq_true rfl) ?_
        intro w8 hx8
        replace hM := hM.ext hx8
        replace hJm := hJm.ext hx8
        replace hS38 := hS38.ext hx8
        replace hS39 := hS39.ext hx8
        replace hB2 := hB2.ext hx8
        replace hB24 := hB24.ext hx8
        replace hE := hE.ext hx8
        replace hEs := hEs.ext hx8
        refine R.append Try.underlying22 Try.underlying22 t35 (by decide) rfl hM.outer hS39.row (by simp [cellsOf, cells_one hS38.one, hS38.one]) rfl rfl (by simp; omega) (by simp; omega) (fun _ b hb => ⟨G.S1_lt (fun _ _ h => h.1) (Nat.le_trans hS0 hEs.size) hb, fun e => G.S1_old (by have h1 := hMs.outer.blk_lt e; rw [hh4] at h1; exact h1) (fun h => (h.2 rfl).2 e) hb⟩) ?_
        intro v40 w40 hU40 hS40 hd40
        have hf40 := Fresh.app' hE.size hf hd40
        replace hB2 := hB2.upS hU40 hM.outer (by decide)
        replace hB24 := hB24.upS hU40 hM.outer (by decide)
        replace hJm := hJm.up hU40 (fun e => by obtain ⟨c, q⟩ := hM.outer.blk e; exact hJm.ne q rfl)
        replace hE := hE.app hU40 hf
        replace hS40 : Sl w40 35 1 v40 ((xss.take i).length + 1) (us1 ++ [v38]) := by simpa [cellsOf, cells_one hS38.one] using hS40
        replace hM := MS.snoc hM hS38 hfw38 hsep38 hf40 hU40 hS40
        clear hS40 hS38 hS39 hEs
        refine R.nil ⟨hU40.size, ?_⟩
        intro K8 hK8 hN8
        replace hk39 := hK8 _ hk39
        refine G.q rfl (Nat.le_of_ble_eq_true rfl) ?_
        refine R.nilCheck rfl ?_
        refine R.nil ?_
        refine G.q rfl (Nat.le_of_ble_eq_true rfl) ?_
        refine R.fld fa108_0 rfl ?_
        refine R.nil ?_
        refine G.l rfl rfl (.inr rfl) (Nat.le_of_ble_eq_true rfl) ?_
        intro w9 hx9
        replace hM := hM.ext hx9
        replace hJm := hJm.ext hx9
        replace hB2 := hB2.ext hx9
        replace hB24 := hB24.ext hx9
        replace hE := hE.ext hx9
        refine R.store t22 hB24 rfl rfl hM.outer.one (by simp) (fun _ h => G.S1_old (by have h1 := hB24s.lt; rw [hh4] at h1; exact h1) (fun h => (h.2 rfl).1 rfl) h) ?_
        intro w50 hU50 hs50 hN50
        replace hM := hM.upT hU50 hB24 (by decide)
        replace hJm := hJm.upT hU50 hB24 rfl
        replace hB2 := hB2.upT hU50 hB24 (by decide)
        replace hE := hE.own hU50 hb24
        replace hB24 : Blk _ b24 108 #[v40, .int .i64 H, vo, .map (some rm), .slice none 0 0, .int .i64 0] := hN50
        refine R.nil ⟨hU50.size, ?_⟩
        intro K9 hK9 hN9
        replace hk39 := hK9 _ hk39
        refine G.nil ?_
        refine E.regionP rfl ?_
        refine R.addN (n := 1) rfl rfl (by omega) ?_
        refine R.move ?_
        refine R.nil ?_
        exact ⟨xss.length - (i + 1), by omega, i + 1, v40, _, rfl, by omega, hE, by rw [take_snoc (List.getElem?_eq_getElem hi1)]; exact hM, hJm, hB2, hB24, rfl, rfl, rfl, rfl, rfl, rfl, trivial⟩
      · replace hc29 := dF hc29
        obtain rfl : i = xss.length := by omega
        rw [List.take_length] at hM
        refine E.exit ?_
        refine E.seq ?_
        refine E.seq ?_
        refine E.regionP rfl ?_
        refine R.move ?_
        refine R.len Try.underlying35 ho rfl ?_
        refine R.move ?_
        refine R.nil ?_
        refine E.block ?_
        refine E.loop (fun n e wr => ∃ (k : Nat), n = ord.length - k ∧ k ≤ ord.length ∧ Ext w wr ∧ MS w wr ov us1 xss ∧ Ranks wr rm (ord.take k) ∧ OrdP xss (ord.take k) ∧ Blk wr b2 24 #[v, .int .i64 H] ∧ Blk wr b24 108 #[ov, .int .i64 H, vo, .map (some rm), .slice none 0 0, .int .i64 0] ∧ Has e [(1, vo), (2, .pointer (some ⟨b2, 0, none⟩)), (6, .pointer (some ⟨b24, 0, none⟩)), (44, vo), (45, .int .i64 ord.length), (46, .int .i64 (k : Nat))]) (ord.length) ?_ ?_
        · exact ⟨0, rfl, Nat.zero_le _, hE, hM, hJm, by simpa using OrdP.nil, hB2, hB24, rfl, rfl, rfl, rfl, rfl, rfl, trivial⟩
        · rintro n e wr ⟨k, rfl, hk, hE, hM, hJm, hO, hB2, hB24, hH⟩
          obtain ⟨e, rfl⟩ := hH.ex
          clear hH
          refine E.seq ?_
          refine E.regionP rfl ?_
          refine R.lss rfl rfl rfl ?_
          refine R.nil ?_
          refine E.seq ?_
          refine E.cond rfl (fun hc47 => ?_) (fun hc47 => ?_)
          · replace hc47 := dT hc47
            have hk1 : k < ord.length := by omega
            obtain ⟨x, y, hfv⟩ := rightB_findV (xss := xss) (b := ord[k])
            have hmin : min k ord.length = k := by omega
            refine E.skip ?_
            refine E.seq ?_
            refine E.block ?_
            refine E.seq ?_
            refine E.regionP rfl ?_
            refine R.move ?_
            refine R.ix Try.underlying35 t3 (by decide) ho rfl rfl (by omega) ?_
            refine R.ld t3 (ho.ext hE) rfl (int_at (by omega)) rfl (fun _ _ => trivial) ?_
            refine R.assign ?_
            refine R.assign ?_
            refine R.nil ?_
            refine E.seq ?_
            refine E.regionP rfl ?_
            refine R.loadA t24 hB2 rfl rfl rfl trivial ?_
            refine R.move ?_
            refine R.callE2 ent23 (findE _ ⟨_, hm.ext hE⟩ hl hx hfv) rfl rfl nofun ?_
            rintro v54 w10 hx10 rfl
            replace hM := hM.ext hx10
            replace hJm := hJm.ext hx10
            replace hB2 := hB2.ext hx10
            replace hB24 := hB24.ext hx10
            replace hE := hE.ext hx10
            refine R.move ?_
            refine R.extract rfl rfl ?_
            refine R.extract rfl rfl ?_
            refine R.extract rfl rfl ?_
            refine R.assign ?_
            refine R.assign ?_
            refine R.assign ?_
            refine R.nil ?_
            refine E.seq ?_
            refine E.seq ?_
            refine E.regionP rfl ?_
            refine R.move ?_
            refine R.nilCheck rfl ?_
            refine R.fld fa108_3 rfl ?_
            refine R.loadB t97 hB24 rfl rfl rfl trivial ?_
            refine R.move ?_
            obtain ⟨M, hM1, hM2⟩ := hJm
            refine R.lookOk Try.underlying97 Try.underlying3 t3 hM1 rfl rfl trivial ?_
            rw [hM2 ord[k]]
            refine R.move ?_
            refine R.extract rfl rfl ?_
            refine R.extract rfl rfl ?_
            refine R.assign ?_
            refine R.assign ?_
            refine R.nil ?_
            refine E.seq ?_
            rcases (show (ord[k] ∈ ord.take k) ∨ (ord[k] ∉ ord.take k ∧ ord[k] ∉ xss.flatten) ∨ (ord[k] ∉ ord.take k ∧ ord[k] ∈ xss.flatten) by by_cases h1 : ord[k] ∈ ord.take k <;> by_cases h2 : ord[k] ∈ xss.flatten <;> simp [h1, h2]) with hq | ⟨hq, hq2⟩ | ⟨hq, hq2⟩
            · refine E.regionP rfl ?_
              refine R.mv (.bool true) (by show Value.bool _ = _; simp [hq]) ?_
              refine R.move ?_
              refine R.gF rfl rfl rfl ?_
              refine R.gF rfl rfl rfl ?_
              refine R.pickT rfl ?_
              refine R.nil ?_
              refine E.condT rfl ?_
              refine E.seq ?_
              refine E.regionP rfl ?_
              refine R.assign ?_
              refine R.assign ?_
              refine R.nil ?_
              refine E.ret ?_
              refine ret2 (.pointer none) (.bool false) rfl rfl rfl ⟨_, rfl, hE, .inl ⟨?_, rfl⟩⟩
              simp only [beginB, hR, Bool.true_and, decide_eq_false_iff_not]
              exact fun h => (h.take hk1).1 hq
            · refine E.regionP rfl ?_
              refine R.mv (.bool false) (by show Value.bool _ = _; simp [hq]) ?_
              refine R.move ?_
              refine R.gT rfl rfl ?_
              refine R.mv (.bool false) (by show Value.bool _ = _; simp [hq2]) ?_
              refine R.gT rfl rfl ?_
              refine R.not rfl ?_
              refine R.pickF rfl ?_
              refine R.nil ?_
              refine E.condT rfl ?_
              refine E.seq ?_
              refine E.regionP rfl ?_
              refine R.assign ?_
              refine R.assign ?_
              refine R.nil ?_
              refine E.ret ?_
              refine ret2 (.pointer none) (.bool false) rfl rfl rfl ⟨_, rfl, hE, .inl ⟨?_, rfl⟩⟩
              simp only [beginB, hR, Bool.true_and, decide_eq_false_iff_not]
              exact fun h => hq2 (h.take hk1).2
            · refine E.regionP rfl ?_
              refine R.mv (.bool false) (by show Value.bool _ = _; simp [hq]) ?_
              refine R.move ?_
              refine R.gT rfl rfl ?_
              refine R.mv (.bool true) (by show Value.bool _ = _; simp [hq2]) ?_
              refine R.gT rfl rfl ?_
              refine R.not rfl ?_
              refine R.pickF rfl ?_
              refine R.nil ?_
              refine E.condF rfl ?_
              refine E.skip ?_
              refine E.regionP rfl ?_
              refine R.move ?_
              refine R.nilCheck rfl ?_
              refine R.fld fa108_3 rfl ?_
              refine R.loadB t97 hB24 rfl rfl rfl trivial ?_
              refine R.move ?_
              refine R.move ?_
              refine R.mapSet (v := ((k : Nat) : Int)) Try.underlying97 Try.underlying3 hM1 rfl rfl rfl nofun ?_
              intro w77 hU77 hs77 hM77
              replace hM := hM.upM hM1 hU77
              replace hB2 := hB2.up hU77 (fun e => hM1.ne hB2 e.symm)
              replace hB24 := hB24.up hU77 (fun e => hM1.ne hB24 e.symm)
              replace hE := hE.own hU77 hrm
              have hJm : Ranks w77 rm (ord.take (k + 1)) := ⟨_, hM77, by
                have := RankM.snoc hM2 hq
                rw [List.length_take, hmin] at this
                rw [take_snoc (List.getElem?_eq_getElem hk1)]; exact this⟩
              refine R.nil ?_
              refine E.regionP rfl ?_
              refine R.addN (n := 1) rfl rfl (by omega) ?_
              refine R.move ?_
              refine R.nil ?_
              exact ⟨ord.length - (k + 1), by omega, k + 1, rfl, by omega, hE, hM, hJm, by rw [take_snoc (List.getElem?_eq_getElem hk1)]; exact hO.snoc hq hq2, hB2, hB24, rfl, rfl, rfl, rfl, rfl, rfl, trivial⟩
          · replace hc47 := dF hc47
            refine E.exit ?_
            refine E.seq ?_
            refine E.regionP rfl ?_
            refine R.move ?_
            refine R.assign ?_
            refine R.assign ?_
            refine R.nil ?_
            refine E.ret ?_
            obtain rfl : k = ord.length := by omega
            rw [List.take_length] at hJm hO
            refine ret2 (.pointer (some ⟨b24, 0, none⟩)) (.bool true) rfl rfl rfl ⟨_, rfl, hE, .inr ⟨by simp [beginB, hR, hO], b24, ov, us1, rm, _, H, rfl, rfl, hB24, hM, ho, hJm, Sl.nil _ _ _, Fresh.nil _, hb24, hrm, hE⟩⟩
  · refine calls_E (args := [.agg #[v, .int .i64 h], vo]) 80 Try.func73 rfl rfl (by simp) ?_
    have hE : Ext w w := Upd.refl w
    refine E.seq ?_
    refine E.regionP rfl ?_
    refine R.box rfl nofun ?_
    intro b2 w1 hb2 hx1 hB2
    replace hb2 := Nat.le_trans hE.size hb2
    replace hE := hE.ext hx1
    replace hB2 : Blk _ b2 24 #[v, .int .i64 h] := hB2
    refine R.assign ?_
    refine R.assign ?_
    refine R.nil ?_
    refine E.seq ?_
    refine E.seq ?_
    refine E.regionP rfl ?_
    refine R.loadA t24 hB2 rfl rfl rfl trivial ?_
    refine R.callE1 ent27 (right _ (hm.ext hE) hl hx) rfl nofun ?_
    rintro v17 w2 hx2 rfl
    rw [hR]
    replace hB2 := hB2.ext hx2
    replace hE := hE.ext hx2
    refine R.not rfl ?_
    refine R.nil ?_
    refine E.condT rfl ?_
    refine E.seq ?_
    refine E.regionP rfl ?_
    refine R.assign ?_
    refine R.assign ?_
    refine R.nil ?_
    refine E.ret ?_
    refine ret2 (.pointer none) (.bool false) rfl rfl rfl ⟨_, rfl, hE, .inl ⟨?_, rfl⟩⟩
    simp [beginB, hR]
end Go.Proofs.Ytfdmndkoiheebaa
