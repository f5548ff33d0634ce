import Derived.Test.YtfdmndkoiheebaaZ16J5
namespace Go.Proofs.Ytfdmndkoiheebaa
open Go Go.RowKit
def NoE (_ _ : World) : Prop := True
theorem NoE.ext {w w' w'' : World} (_ : NoE w w') (_ : Ext w' w'') : NoE w w'' := trivial
def leastL (ord xs : List Int) : Nat := xs.foldl (fun m b => min m (rankL ord b)) (ord.length + 1)
def OM (w : World) (b900 : Nat) (vs vo : Value) (rm : Nat) (xss : List (List Int)) (H : Nat) (ord : List Int) (nx : Nat) : Prop :=
  ∃ us vt, Blk w b900 108 #[vs, .int .i64 H, vo, .map (some rm), vt, .int .i64 nx] ∧ Mat w vs us xss ∧ Ints w vo ord ∧ Ranks w rm ord
theorem foldl_drop {α β : Type} {f : β → α → β} {l : List α} {k : Nat} {m : β} (h : k < l.length) : (l.drop k).foldl f m = (l.drop (k + 1)).foldl f (f m l[k]) := by
  rw [List.drop_eq_getElem_cons h]; rfl
set_option maxHeartbeats 1600000 in
theorem others1 (w : World) {l b900 b901 b902 H rm nx : Nat} {vs vo : Value} {xss : List (List Int)} {ord : List Int} {fr : Int} {Inv : Nat → World → Prop} {Stop : World → Prop} (hI : Inv 0 w)
    (hO : ∀ i w, Inv i w → OM w b900 vs vo rm xss H ord nx ∧ Blk w b901 104 #[.pointer (some ⟨b900, 0, none⟩)] ∧ Blk w b902 3 #[.int .i64 fr])
    (hX : ∀ i w w', Inv i w → Ext w w' → Inv i w')
    (hK : ∀ i (hi : i < xss.length) w, ((i : Int) = fr ∨ xss[i].length = H) → Inv i w → Inv (i + 1) w)
    (hY : ∀ i (hi : i < xss.length) w, (i : Int) ≠ fr → xss[i].length ≠ H → Inv i w → Yields Try.prog l #[.int .i64 (i : Nat), .int .i64 (leastL ord xss[i] : Nat)] w (fun v w' => ∃ b, v = .bool b ∧ (b = true → Inv (i + 1) w') ∧ (b = false → Stop w')))
    (hl : xss.length ≤ 30) (hx : ∀ xs ∈ xss, xs.length ≤ 6) (hol : ord.length < 1000000) :
    Calls Try.prog 95 #[.func (.yield l) #[] #[], .pointer (some ⟨b901, 0, none⟩), .pointer (some ⟨b902, 0, none⟩)] w (Ret fun r w' => r = .tuple #[] ∧ (Inv xss.length w' ∨ Stop w')) := by
  refine calls_E (args := [.func (.yield l) #[] #[], .pointer (some ⟨b901, 0, none⟩), .pointer (some ⟨b902, 0, none⟩)]) 55 Try.func95 rfl rfl (by simp) ?_
  have hE : NoE w w := trivial
  obtain ⟨⟨us, vt, hB900, hm, ho, hrk⟩, hB901, hB902⟩ := hO _ _ hI
  refine E.seq ?_
  refine E.regionP rfl ?_
  refine R.loadB t104 hB901 rfl rfl rfl trivial ?_
  refine R.nilCheck rfl ?_
  refine R.fld fa108_0 rfl ?_
  refine R.loadB t22 hB900 rfl rfl rfl trivial ?_
  refine R.len Try.underlying22 hm.row rfl ?_
  refine R.move ?_
  refine R.nil ?_
  refine E.block ?_
  refine E.loop (fun n e wr => ∃ (i : Nat), n = xss.length - i ∧ i ≤ xss.length ∧ Inv i wr ∧ Has e [(0, .func (.yield l) #[] #[]), (1, .pointer (some ⟨b901, 0, none⟩)), (2, .pointer (some ⟨b902, 0, none⟩)), (12, vs), (13, .int .i64 xss.length), (14, .int .i64 (i : Nat))]) (xss.length) ?_ ?_
  · exact ⟨0, rfl, Nat.zero_le _, hI, rfl, rfl, rfl, rfl, rfl, rfl, trivial⟩
  · rintro n e wr ⟨i, rfl, hi, hI, hH⟩
    obtain ⟨e, rfl⟩ := hH.ex
    clear hH
    obtain ⟨⟨us, vt, hB900, hm, ho, hrk⟩, hB901, hB902⟩ := hO _ _ hI
    have hE : NoE w wr := trivial
    refine E.seq ?_
    refine E.regionP rfl ?_
    refine R.lss rfl rfl rfl ?_
    refine R.nil ?_
    refine E.seq ?_
    refine E.cond rfl (fun hc15 => ?_) (fun hc15 => ?_)
    · replace hc15 := dT hc15
      have hi1 : i < xss.length := by omega
      have hxi := hx _ (List.getElem_mem hi1)
      refine E.skip ?_
      refine E.seq ?_
      refine E.block ?_
      refine E.seq ?_
      refine E.regionP rfl ?_
      refine R.move ?_
      refine R.ix (m := i) Try.underlying22 t35 (by decide) hm.row rfl rfl hi1 ?_
      obtain ⟨u18, hu18, hr18⟩ := hm.get i hi1
      refine R.ld (j := i) t35 hm.row rfl hu18 rfl (fun _ _ => trivial) ?_
      refine R.assign ?_
      refine R.assign ?_
      refine R.nil ?_
      refine E.seq ?_
      refine E.seq ?_
      rcases (show ((i : Int) = fr) ∨ ((i : Int) ≠ fr ∧ xss[i].length = H) ∨ ((i : Int) ≠ fr ∧ xss[i].length ≠ H) by omega) with hq | ⟨hq, hq2⟩ | ⟨hq, hq2⟩
      · refine E.regionP rfl ?_
        refine R.move ?_
        refine R.loadB t3 hB902 rfl rfl rfl trivial ?_
        refine R.eql (b := true) rfl rfl (by simp [hq]) ?_
        refine R.move ?_
        refine R.gF rfl rfl rfl ?_
        refine R.gF rfl rfl rfl ?_
        refine R.gF rfl rfl rfl ?_
        refine R.gF rfl rfl rfl ?_
        refine R.gF rfl rfl rfl ?_
        refine R.gF rfl rfl rfl ?_
        refine R.gF rfl rfl rfl ?_
        refine R.pickT rfl ?_
        refine R.nil ?_
        refine E.condT rfl ?_
        refine E.exit ?_
        refine E.regionP rfl ?_
        refine R.addN (n := 1) rfl rfl (by omega) ?_
        refine R.move ?_
        refine R.nil ?_
        exact ⟨xss.length - (i + 1), by omega, i + 1, rfl, by omega, hK i hi1 _ (.inl hq) hI, rfl, rfl, rfl, rfl, rfl, rfl, trivial⟩
      · refine E.regionP rfl ?_
        refine R.move ?_
        refine R.loadB t3 hB902 rfl rfl rfl trivial ?_
        refine R.eql (b := false) rfl rfl (by simp [hq]) ?_
        refine R.move ?_
        refine R.gT rfl rfl ?_
        refine R.move ?_
        refine R.gT rfl rfl ?_
        refine R.len Try.underlying35 hr18 rfl ?_
        refine R.gT rfl rfl ?_
        refine R.loadB t104 hB901 rfl rfl rfl trivial ?_
        refine R.gT rfl rfl ?_
        refine R.nilCheck rfl ?_
        refine R.gT rfl rfl ?_
        refine R.fld fa108_1 rfl ?_
        refine R.gT rfl rfl ?_
        refine R.loadB t3 hB900 rfl rfl rfl trivial ?_
        refine R.gT rfl rfl ?_
        refine R.eql (b := true) rfl rfl (by simp [hq2]) ?_
        refine R.pickF rfl ?_
        refine R.nil ?_
        refine E.condT rfl ?_
        refine E.exit ?_
        refine E.regionP rfl ?_
        refine R.addN (n := 1) rfl rfl (by omega) ?_
        refine R.move ?_
        refine R.nil ?_
        exact ⟨xss.length - (i + 1), by omega, i + 1, rfl, by omega, hK i hi1 _ (.inr hq2) hI, rfl, rfl, rfl, rfl, rfl, rfl, trivial⟩
      · refine E.regionP rfl ?_
        refine R.move ?_
        refine R.loadB t3 hB902 rfl rfl rfl trivial ?_
        refine R.eql (b := false) rfl rfl (by simp [hq]) ?_
        refine R.move ?_
        refine R.gT rfl rfl ?_
        refine R.move ?_
        refine R.gT rfl rfl ?_
        refine R.len Try.underlying35 hr18 rfl ?_
        refine R.gT rfl rfl ?_
        refine R.loadB t104 hB901 rfl rfl rfl trivial ?_
        refine R.gT rfl rfl ?_
        refine R.nilCheck rfl ?_
        refine R.gT rfl rfl ?_
        refine R.fld fa108_1 rfl ?_
        refine R.gT rfl rfl ?_
        refine R.loadB t3 hB900 rfl rfl rfl trivial ?_
        refine R.gT rfl rfl ?_
        refine R.eql (b := false) rfl rfl (by simp; omega) ?_
        refine R.pickF rfl ?_
        refine R.nil ?_
        refine E.condF rfl ?_
        refine E.skip ?_
        refine E.seq ?_
        refine E.regionP rfl ?_
        refine R.loadB t104 hB901 rfl rfl rfl trivial ?_
        refine R.nilCheck rfl ?_
        refine R.fld fa108_2 rfl ?_
        refine R.loadB t35 hB900 rfl rfl rfl trivial ?_
        refine R.len Try.underlying35 ho rfl ?_
        refine R.addN (n := 1) rfl rfl (by omega) ?_
        refine R.assign ?_
        refine R.nil ?_
        refine E.seq ?_
        refine E.seq ?_
        refine E.regionP rfl ?_
        refine R.move ?_
        refine R.len Try.underlying35 hr18 rfl ?_
        refine R.move ?_
        refine R.nil ?_
        refine E.block ?_
        refine E.loop (fun n e wr => ∃ (k m : Nat), n = xss[i].length - k ∧ k ≤ xss[i].length ∧ (xss[i].drop k).foldl (fun m b => min m (rankL ord b)) m = leastL ord xss[i] ∧ Inv i wr ∧ Ints wr u18 xss[i] ∧ Has e [(0, .func (.yield l) #[] #[]), (1, .pointer (some ⟨b901, 0, none⟩)), (2, .pointer (some ⟨b902, 0, none⟩)), (4, .int .i64 (i : Nat)), (6, .int .i64 (m : Nat)), (12, vs), (13, .int .i64 xss.length), (14, .int .i64 (i : Nat)), (37, u18), (38, .int .i64 xss[i].length), (39, .int .i64 (k : Nat))]) (xss[i].length) ?_ ?_
        · exact ⟨0, ord.length + 1, rfl, Nat.zero_le _, by simp [leastL], hI, hr18, rfl, rfl, rfl, rfl, rfl, rfl, rfl, rfl, rfl, rfl, rfl, trivial⟩
        · rintro n e wr ⟨k, m, rfl, hk, hf, hI, hr18, hH⟩
          obtain ⟨e, rfl⟩ := hH.ex
          clear hH
          obtain ⟨⟨us, vt, hB900, hm, ho, hrk⟩, hB901, hB902⟩ := hO _ _ hI
          have hE : NoE w wr := trivial
          refine E.seq ?_
          refine E.regionP rfl ?_
          refine R.lss rfl rfl rfl ?_
          refine R.nil ?_
          refine E.seq ?_
          refine E.cond rfl (fun hc40 => ?_) (fun hc40 => ?_)
          · replace hc40 := dT hc40
            have hk1 : k < xss[i].length := by omega
            rw [foldl_drop hk1] at hf
            refine E.skip ?_
            refine E.seq ?_
            refine E.block ?_
            refine E.seq ?_
            refine E.regionP rfl ?_
            refine R.ix Try.underlying35 t3 (by decide) hr18 rfl rfl (by omega) ?_
            refine R.ld (j := k) t3 hr18 rfl (int_at hk1) rfl (fun _ _ => trivial) ?_
            refine R.assign ?_
            refine R.nil ?_
            refine E.regionP rfl ?_
            refine R.move ?_
            refine R.loadB t104 hB901 rfl rfl rfl trivial ?_
            refine R.move ?_
            refine R.callE2 ent96 (rank_ _ hB900 ho hrk) rfl rfl nofun ?_
            rintro v46 w1 hx1 rfl
            replace hI := hX _ _ _ hI hx1
            replace hm := hm.ext hx1
            replace ho := ho.ext hx1
            replace hrk := hrk.ext hx1
            replace hr18 := hr18.ext hx1
            replace hB900 := hB900.ext hx1
            replace hB901 := hB901.ext hx1
            replace hB902 := hB902.ext hx1
            replace hE := hE.ext hx1
            refine R.minN rfl rfl ?_
            refine R.assign ?_
            refine R.nil ?_
            refine E.regionP rfl ?_
            refine R.addN (n := 1) rfl rfl (by omega) ?_
            refine R.move ?_
            refine R.nil ?_
            exact ⟨xss[i].length - (k + 1), by omega, k + 1, _, rfl, by omega, hf, hI, hr18, rfl, rfl, rfl, rfl, rfl, rfl, rfl, rfl, rfl, rfl, rfl, trivial⟩
          · replace hc40 := dF hc40
            obtain rfl : k = xss[i].length := by omega
            rw [List.drop_length] at hf
            obtain rfl : m = leastL ord xss[i] := hf
            refine E.exit ?_
            refine E.seq ?_
            refine E.regionP rfl ?_
            refine R.move ?_
            refine R.move ?_
            refine R.move ?_
            refine R.callY2 rfl rfl rfl (hY i hi1 _ hq hq2 hI) ?_
            rintro v52 w52 ⟨b52, rfl, hT52, hF52⟩
            refine ⟨nofun, ?_⟩
            refine R.not rfl ?_
            refine R.nil ?_
            refine E.cond rfl (fun hc53 => ?_) (fun hc53 => ?_)
            · refine E.ret ?_
              exact retU rfl ⟨_, rfl, rfl, .inr (hF52 (by simpa using hc53))⟩
            · refine E.skip ?_
              refine E.regionP rfl ?_
              refine R.addN (n := 1) rfl rfl (by omega) ?_
              refine R.move ?_
              refine R.nil ?_
              exact ⟨xss.length - (i + 1), by omega, i + 1, rfl, by omega, hT52 (by simpa using hc53), rfl, rfl, rfl, rfl, rfl, rfl, trivial⟩
    · replace hc15 := dF hc15
      obtain rfl : i = xss.length := by omega
      refine E.exit ?_
      exact end0 rfl ⟨_, rfl, rfl, .inl hI⟩
theorem others_ (w : World) {b900 : Nat} {fr : Int} :
    Calls Try.prog 78 #[.pointer (some ⟨b900, 0, none⟩), .int .i64 fr] w (Ret fun r w' => Ext w w' ∧ ∃ b2 b3, r = .func (.func 95) #[] #[.pointer (some ⟨b2, 0, none⟩), .pointer (some ⟨b3, 0, none⟩)] ∧ w.heap.size ≤ b2 ∧ w.heap.size ≤ b3 ∧ Blk w' b2 104 #[.pointer (some ⟨b900, 0, none⟩)] ∧ Blk w' b3 3 #[.int .i64 fr]) := by
  refine calls_E (args := [.pointer (some ⟨b900, 0, none⟩), .int .i64 fr]) 6 Try.func78 rfl rfl (by simp) ?_
  have hE : Ext w w := Upd.refl w
  refine E.seq ?_
  refine E.regionP rfl ?_
  refine R.box rfl nofun ?_
  intro b2 w2 hb2 hx2 hB2
  replace hb2 := Nat.le_trans hE.size hb2
  replace hE := hE.ext hx2
  replace hB2 : Blk _ b2 104 #[.pointer (some ⟨b900, 0, none⟩)] := hB2
  refine R.box rfl nofun ?_
  intro b3 w3 hb3 hx3 hB3
  replace hb3 := Nat.le_trans hE.size hb3
  replace hB2 := hB2.ext hx3
  replace hE := hE.ext hx3
  replace hB3 : Blk _ b3 3 #[.int .i64 fr] := hB3
  refine R.assign ?_
  refine R.nil ?_
  refine E.seq ?_
  refine E.regionP rfl ?_
  refine R.makeF2 rfl rfl ?_
  refine R.assign ?_
  refine R.nil ?_
  refine E.ret ?_
  exact ret1 (.func (.func 95) #[] #[.pointer (some ⟨b2, 0, none⟩), .pointer (some ⟨b3, 0, none⟩)]) rfl rfl ⟨_, rfl, hE, b2, b3, rfl, hb2, hb3, hB2, hB3⟩
end Go.Proofs.Ytfdmndkoiheebaa

namespace Go.Proofs.Ytfdmndkoiheebaa
def abv (xss : List (List Int)) (b : Int) : Nat := match findL xss b with
  | some (i, k) => (xss.getD i []).length - (k + 1)
  | none => 0
structure GoodJ (xss : List (List Int)) (H : Nat) (ord : List Int) (nx : Nat) : Prop where
  right : RightP xss (H : Int)
  nodup : ord.Nodup
  there : ∀ b ∈ ord.drop nx, b ∈ xss.flatten
theorem GoodJ.start {xss : List (List Int)} {H : Nat} {ord : List Int} (h : beginB xss H ord = true) : GoodJ xss H ord 0 := by
  obtain ⟨h1, h2, h3⟩ := beginB_right h
  exact ⟨h1, h2, by simpa using h3⟩
section
variable {xss : List (List Int)} {H : Nat} {ord : List Int} {nx : Nat}
theorem GoodJ.at (h : GoodJ xss H ord nx) (hn : nx < ord.length) : ∃ (a k : Nat) (ha : a < xss.length) (hk : k < xss[a].length), xss[a][k] = ord[nx] ∧ findL xss ord[nx] = some (a, k) := by
  have hm := h.there ord[nx] (by rw [List.drop_eq_getElem_cons hn]; exact List.mem_cons_self)
  obtain ⟨xs, hx, hb⟩ := List.mem_flatten.1 hm
  obtain ⟨a, ha, rfl⟩ := List.mem_iff_getElem.1 hx
  obtain ⟨k, hk, e⟩ := List.mem_iff_getElem.1 hb
  exact ⟨a, k, ha, hk, e, by rw [← e]; exact h.right.find ha hk⟩
theorem RightP.inj {h : Int} (hR : RightP xss h) {a k a' k' : Nat} (ha : a < xss.length) (hk : k < xss[a].length) (ha' : a' < xss.length) (hk' : k' < xss[a'].length) (e : xss[a][k] = xss[a'][k']) : a = a' ∧ k = k' := by
  have h1 := hR.find ha hk
  rw [e, hR.find ha' hk'] at h1
  simp at h1; exact ⟨h1.1.symm, h1.2.symm⟩
theorem RightP.pos {h : Int} (hR : RightP xss h) {a k : Nat} (ha : a < xss.length) (hk : k < xss[a].length) : 1 ≤ xss[a][k] := (hR.2.2.2.2.2.1 _ (List.mem_flatten.2 ⟨_, List.getElem_mem ha, List.getElem_mem hk⟩)).1
theorem GoodJ.leave (h : GoodJ xss H ord nx) (hn : nx < ord.length) {a k : Nat} (ha : a < xss.length) (hk : k < xss[a].length) (e : xss[a][k] = ord[nx]) (hu : k + 1 = xss[a].length) :
    doL xss H ord nx (ord[nx], (a : Int), -1) = some (xss.set a xss[a].dropLast, nx + 1) ∧ GoodJ (xss.set a xss[a].dropLast) H ord (nx + 1) := by
  have hd : xss[a].dropLast = xss[a].take k := by rw [List.dropLast_eq_take]; congr 1; omega
  have h1 := h.right.pos ha hk
  have hga : xss.getD a [] = xss[a] := by simp [ha]
  have ht := topL_at ha (show 0 < xss[a].length by omega)
  have e2 : xss[a][xss[a].length - 1] = ord[nx] := by rw [← e]; congr 1; omega
  constructor
  · simp only [doL]
    rw [ht, e2, if_neg (by omega), if_pos trivial, if_neg (by simp [hn]; omega), Int.toNat_natCast, hga]
  · obtain ⟨q1, q2⟩ := h.right.taken ha hk hu
    have hp := flatten_take_perm ha hk hu
    rw [hd]
    refine ⟨q1, h.nodup, fun b hb => ?_⟩
    have h3 := h.there b (by rw [List.drop_eq_getElem_cons hn]; exact List.mem_cons_of_mem _ hb)
    rw [hp.mem_iff, List.mem_cons, e] at h3
    rcases h3 with rfl | h3
    · exfalso
      have hnd : (ord.drop nx).Nodup := List.Sublist.nodup (List.drop_sublist nx ord) h.nodup
      rw [List.drop_eq_getElem_cons hn, List.nodup_cons] at hnd
      exact hnd.1 hb
    · exact h3
theorem doL_shift {a t : Nat} (hR : RightP xss (H : Int)) (ha : a < xss.length) (hl : 0 < xss[a].length) (ht : t < xss.length) (hat : t ≠ a) (hf : xss[t].length ≠ H) :
    (shiftL xss H a t).2 = 0 ∧ doL xss H ord nx (xss[a][xss[a].length - 1], (a : Int), (t : Int)) = some ((shiftL xss H a t).1, nx) := by
  have hga : xss.getD a [] = xss[a] := by simp [ha]
  have hgt : xss.getD t [] = xss[t] := by simp [ht]
  have h1 := hR.pos ha (show xss[a].length - 1 < xss[a].length by omega)
  have e1 : xss[a].getD (xss[a].length - 1) 0 = xss[a][xss[a].length - 1] := by
    rw [List.getD_eq_getElem?_getD, List.getElem?_eq_getElem (by omega)]; rfl
  have es : shiftL xss H a t = ((xss.set t (xss[t] ++ [xss[a][xss[a].length - 1]])).set a xss[a].dropLast, 0) := by
    unfold shiftL
    rw [if_neg (by omega), if_neg (by omega), Int.toNat_natCast, Int.toNat_natCast, hga, hgt, if_neg (by omega), if_neg hf, e1]
  refine ⟨by rw [es], ?_⟩
  simp only [doL]
  rw [topL_at ha hl, if_neg (by omega), if_neg (by omega), Int.toNat_natCast, Int.toNat_natCast, hga, hgt, if_neg (by omega), es]
theorem GoodJ.reloc (h : GoodJ xss H ord nx) {a k t : Nat} (ha : a < xss.length) (hk : k < xss[a].length) (hu : k + 1 < xss[a].length) (ht : t < xss.length) (hat : t ≠ a) (hf : xss[t].length ≠ H) :
    GoodJ (shiftL xss H a t).1 H ord nx ∧ findL (shiftL xss H a t).1 xss[a][k] = some (a, k) ∧ abv (shiftL xss H a t).1 xss[a][k] + 1 = abv xss xss[a][k] := by
  obtain ⟨hs, _⟩ := doL_shift (ord := ord) (nx := nx) h.right ha (by omega) ht hat hf
  have hR := h.right.shift hs
  have hp := shiftL_perm hs
  obtain ⟨a', b', ha', hb', hl', e1, e2, hab, hn, he⟩ := shiftL_ok hs
  obtain rfl : a = a' := by omega
  obtain rfl : t = b' := by omega
  have hlen : (shiftL xss H a t).1.length = xss.length := shiftL_len
  have hrow : (shiftL xss H a t).1[a]'(by omega) = xss[a].dropLast := by simp only [he]; rw [List.getElem_set_self]
  have hk1 : k < ((shiftL xss H a t).1[a]'(by omega)).length := by rw [hrow]; simp; omega
  have hg : ((shiftL xss H a t).1[a]'(by omega))[k] = xss[a][k] := by simp only [hrow]; rw [List.getElem_dropLast]
  have hF : findL (shiftL xss H a t).1 xss[a][k] = some (a, k) := by rw [← hg]; exact hR.find (by omega) hk1
  refine ⟨⟨hR, h.nodup, fun b hb => hp.mem_iff.2 (h.there b hb)⟩, hF, ?_⟩
  simp only [abv, hF, h.right.find ha hk]
  have g1 : (shiftL xss H a t).1.getD a [] = xss[a].dropLast := by rw [← hrow]; simp [hlen, ha]
  have g2 : xss.getD a [] = xss[a] := by simp [ha]
  rw [g1, g2]; simp; omega
theorem GoodJ.abv_le (h : GoodJ xss H ord nx) (b : Int) : abv xss b ≤ 5 := by
  unfold abv
  rcases hF : findL xss b with _ | ⟨i, k⟩
  · exact Nat.zero_le _
  · obtain ⟨hi, hk, _⟩ := findL_some hF
    have := sum_lengths h.right _ (List.getElem_mem hi)
    have g2 : xss.getD i [] = xss[i] := by simp [hi]
    simp only [g2]; omega
end
def othB (xss : List (List Int)) (H : Nat) (ord : List Int) (fr : Int) : Nat → Int × Int
  | 0 => (-1, -1)
  | i + 1 => if (i : Int) = fr ∨ (xss.getD i []).length = H then othB xss H ord fr i
    else if (othB xss H ord fr i).2 < (leastL ord (xss.getD i []) : Nat) then ((i : Int), (leastL ord (xss.getD i []) : Nat)) else othB xss H ord fr i
theorem othB_spec {xss : List (List Int)} {H : Nat} {ord : List Int} {fr : Int} : ∀ i, i ≤ xss.length → othB xss H ord fr i = (-1, -1) ∨ ∃ (j : Nat) (hj : j < xss.length), j < i ∧ (othB xss H ord fr i).1 = j ∧ (j : Int) ≠ fr ∧ xss[j].length ≠ H ∧ (othB xss H ord fr i).2 = (leastL ord xss[j] : Nat)
  | 0, _ => .inl rfl
  | i + 1, hi => by
    have g : xss.getD i [] = xss[i] := by simp [show i < xss.length by omega]
    have up : (othB xss H ord fr i = (-1, -1) ∨ ∃ (j : Nat) (hj : j < xss.length), j < i + 1 ∧ (othB xss H ord fr i).1 = j ∧ (j : Int) ≠ fr ∧ xss[j].length ≠ H ∧ (othB xss H ord fr i).2 = (leastL ord xss[j] : Nat)) := by
      rcases othB_spec (xss := xss) (H := H) (ord := ord) (fr := fr) i (by omega) with h | ⟨j, hj, h1, h2⟩
      · exact .inl h
      · exact .inr ⟨j, hj, by omega, h2⟩
    simp only [othB, g]
    split
    · exact up
    · split
      · exact .inr ⟨i, by omega, by omega, rfl, by omega, by omega, rfl⟩
      · exact up
def runG (H : Nat) (ord : List Int) : Nat → List (List Int) → Nat → List (Int × Int × Int) → List (Int × Int × Int) × Int
  | 0, _, _, acc => (acc, 0)
  | n + 1, xss, nx, acc =>
    if nx < ord.length then
      let b := ord.getD nx 0
      let fr := whereL xss b
      if topL xss fr = b then
        match doL xss H ord nx (b, fr, -1) with
        | some (ys, n') => runG H ord n ys n' (acc ++ [(b, fr, -1)])
        | none => (acc, 0)
      else
        let to := (othB xss H ord fr xss.length).1
        if to < 0 then ([], 4) else
          match doL xss H ord nx (topL xss fr, fr, to) with
          | some (ys, n') => runG H ord n ys n' (acc ++ [(topL xss fr, fr, to)])
          | none => (acc, 0)
    else (acc, 0)
def runR (xss : List (List Int)) (h : Int) (ord : List Int) : List (Int × Int × Int) × Int := if beginB xss h ord then runG h.toNat ord (7 * ord.length + 7) xss 0 [] else ([], 2)
theorem runG_end {H : Nat} {ord : List Int} {n : Nat} {xss : List (List Int)} {nx : Nat} {acc : List (Int × Int × Int)} (h : ¬ nx < ord.length) : runG H ord n xss nx acc = (acc, 0) := by
  cases n with
  | zero => rfl
  | succ n => simp only [runG]; rw [if_neg h]
theorem whereL_some {xss : List (List Int)} {b : Int} {a k : Nat} (h : findL xss b = some (a, k)) : whereL xss b = (a : Nat) := by simp only [whereL, h]
theorem getD_at {ord : List Int} {nx : Nat} (hn : nx < ord.length) : ord.getD nx 0 = ord[nx] := by simp [hn]
theorem runG_leave {H : Nat} {ord : List Int} {n : Nat} {xss ys : List (List Int)} {nx n' a k : Nat} {acc : List (Int × Int × Int)} (hn : nx < ord.length) (hF : findL xss ord[nx] = some (a, k)) (ht : topL xss (a : Nat) = ord[nx]) (hd : doL xss H ord nx (ord[nx], ((a : Nat) : Int), -1) = some (ys, n')) :
    runG H ord (n + 1) xss nx acc = runG H ord n ys n' (acc ++ [(ord[nx], ((a : Nat) : Int), -1)]) := by
  simp only [runG]
  rw [if_pos hn, getD_at hn, whereL_some hF, if_pos ht, hd]
theorem runG_full {H : Nat} {ord : List Int} {n : Nat} {xss : List (List Int)} {nx a k : Nat} {acc : List (Int × Int × Int)} (hn : nx < ord.length) (hF : findL xss ord[nx] = some (a, k)) (ht : topL xss (a : Nat) ≠ ord[nx]) (hf : (othB xss H ord (a : Nat) xss.length).1 < 0) :
    runG H ord (n + 1) xss nx acc = ([], 4) := by
  simp only [runG]
  rw [if_pos hn, getD_at hn, whereL_some hF, if_neg ht, if_pos hf]
theorem runG_reloc {H : Nat} {ord : List Int} {n : Nat} {xss ys : List (List Int)} {nx n' a k : Nat} {acc : List (Int × Int × Int)} (hn : nx < ord.length) (hF : findL xss ord[nx] = some (a, k)) (ht : topL xss (a : Nat) ≠ ord[nx]) (hf : ¬ (othB xss H ord (a : Nat) xss.length).1 < 0) (hd : doL xss H ord nx (topL xss (a : Nat), ((a : Nat) : Int), (othB xss H ord (a : Nat) xss.length).1) = some (ys, n')) :
    runG H ord (n + 1) xss nx acc = runG H ord n ys n' (acc ++ [(topL xss (a : Nat), ((a : Nat) : Int), (othB xss H ord (a : Nat) xss.length).1)]) := by
  simp only [runG]
  rw [if_pos hn, getD_at hn, whereL_some hF, if_neg ht, if_neg hf, hd]
end Go.Proofs.Ytfdmndkoiheebaa
