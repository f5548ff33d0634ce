/- Yards, in plain Lean: moves, and the moves back. -/
import Derived.Test.YtfdmndkoiheebaaN1
namespace Go.Proofs.Ytfdmndkoiheebaa
open Go Go.RowKit

theorem playL_append {H : Nat} : ∀ (ms ms' : List (Int × Int)) (xss : List (List Int)) (i : Nat), (playL H xss i ms).2.2 = 0 → playL H xss i (ms ++ ms') = playL H (playL H xss i ms).1 (i + ms.length) ms' := by
  intro ms
  induction ms with
  | nil => intro ms' xss i _; simp [playL]
  | cons m ms ih =>
    intro ms' xss i h
    simp only [playL, List.cons_append] at h ⊢
    split at h
    · rename_i hs
      rw [if_pos hs, if_pos hs, ih ms' _ _ h, List.length_cons]
      congr 1; omega
    · rename_i hs; exact absurd h hs
theorem playL_idx {H : Nat} : ∀ (ms : List (Int × Int)) (xss : List (List Int)) (i j : Nat), (playL H xss i ms).2.2 = 0 → playL H xss j ms = playL H xss i ms := by
  intro ms
  induction ms with
  | nil => intro xss i j _; rfl
  | cons m ms ih =>
    intro xss i j h
    simp only [playL] at h ⊢
    split at h
    · rename_i hs
      rw [if_pos hs, if_pos hs]
      exact ih _ _ _ h
    · rename_i hs; exact absurd h hs
theorem shiftL_mk {xss : List (List Int)} {H a b : Nat} (ha : a < xss.length) (hb : b < xss.length) (hab : a ≠ b) (hl : 0 < xss[a].length) (hn : xss[b].length ≠ H) :
    shiftL xss H a b = ((xss.set b (xss[b] ++ [xss[a][xss[a].length - 1]])).set a xss[a].dropLast, 0) := by
  have ga : xss.getD a [] = xss[a] := by simp [ha]
  have gb : xss.getD b [] = xss[b] := by simp [hb]
  simp only [shiftL]
  rw [if_neg (by omega), if_neg (by omega), Int.toNat_natCast, Int.toNat_natCast, ga, gb, if_neg (by omega), if_neg hn]
  rw [List.getD_eq_getElem?_getD, List.getElem?_eq_getElem (show xss[a].length - 1 < xss[a].length by omega)]
  rfl
theorem shiftL_back {xss : List (List Int)} {H : Nat} {f t : Int} (hR : RightP xss H) (h : (shiftL xss H f t).2 = 0) : shiftL (shiftL xss H f t).1 H t f = (xss, 0) := by
  obtain ⟨a, b, ha, hb, hl, rfl, rfl, hab, hn, he⟩ := shiftL_ok h
  have hxa := hR.2.2.2.2.1 _ (List.getElem_mem ha)
  generalize hx : xss[a][xss[a].length - 1] = x at he
  have hdl : xss[a].dropLast ++ [x] = xss[a] := by
    rw [← hx]
    have := List.dropLast_concat_getLast (l := xss[a]) (by intro e; simp [e] at hl)
    rw [List.getLast_eq_getElem] at this
    exact this
  rw [he]
  generalize hy : (xss.set b (xss[b] ++ [x])).set a xss[a].dropLast = ys
  have hyl : ys.length = xss.length := by rw [← hy]; simp
  have hya : ys[a]'(by omega) = xss[a].dropLast := by simp only [← hy]; simp
  have hyb : ys[b]'(by omega) = xss[b] ++ [x] := by
    simp only [← hy]
    rw [List.getElem_set_ne hab, List.getElem_set_self]
  rw [shiftL_mk (a := b) (b := a) (by omega) (by omega) (Ne.symm hab) (by rw [hyb]; simp) (by rw [hya, List.length_dropLast]; omega)]
  congr 1
  have hlast : (ys[b]'(by omega))[(ys[b]'(by omega)).length - 1]'(by rw [hyb]; simp) = x := by
    have : ∀ (l : List Int) (h : l = xss[b] ++ [x]) (h2 : l.length - 1 < l.length), l[l.length - 1] = x := by intro l h h2; subst h; simp
    exact this _ hyb _
  rw [hlast, hya, hyb, List.dropLast_concat, hdl]
  apply List.ext_getElem?
  intro i
  rw [← hy]
  by_cases hib : b = i
  · subst hib
    rw [List.getElem?_set_self (by simp; exact hb), List.getElem?_eq_getElem hb]
  · rw [List.getElem?_set_ne hib]
    by_cases hia : a = i
    · subst hia
      rw [List.getElem?_set_self (by simp; exact ha), List.getElem?_eq_getElem ha]
    · rw [List.getElem?_set_ne hia, List.getElem?_set_ne hia, List.getElem?_set_ne hib]
/-- Moves that were done, and the moves back. -/
structure MvP (xss : List (List Int)) (H : Nat) (nw : List (List Int)) (ds bs : List (Int × Int)) : Prop where
  right : RightP nw H
  play : playL H xss 0 ds = (nw, 0, 0)
  back : playL H nw 0 bs = (xss, 0, 0)
  perm : nw.flatten.Perm xss.flatten
  len : nw.length = xss.length
  same : bs.length = ds.length
theorem MvP.start {xss : List (List Int)} {H : Nat} (hR : RightP xss H) : MvP xss H xss [] [] := ⟨hR, rfl, rfl, List.Perm.refl _, rfl, rfl⟩
theorem MvP.step {xss nw : List (List Int)} {H : Nat} {ds bs : List (Int × Int)} {m : Int × Int} (h : MvP xss H nw ds bs) (hs : (shiftL nw H m.1 m.2).2 = 0) : MvP xss H (shiftL nw H m.1 m.2).1 (ds ++ [m]) ((m.2, m.1) :: bs) := by
  refine ⟨h.right.shift hs, ?_, ?_, (shiftL_perm hs).trans h.perm, by rw [shiftL_len]; exact h.len, by simp [h.same]⟩
  · rw [playL_append ds [m] xss 0 (by rw [h.play]), h.play]
    simp [playL, hs]
  · have hb := shiftL_back h.right hs
    simp only [playL, hb, if_true]
    rw [playL_idx bs nw 0 (0 + 1) (by rw [h.back]), h.back]
theorem MvP.playR {xss nw : List (List Int)} {H : Nat} {ds bs : List (Int × Int)} (h : MvP xss H nw ds bs) (hR : RightP xss H) (hl : ds.length ≤ 60) : Ytfdmndkoiheebaa.playR xss H ds = (nw, (H : Int), 0, 0) ∧ Ytfdmndkoiheebaa.playR nw H bs = (xss, (H : Int), 0, 0) := by
  have hsm := h.same
  constructor
  · simp only [Ytfdmndkoiheebaa.playR, hR.b, Int.toNat_natCast]
    rw [if_neg (by simp), if_neg (by omega), h.play]; rfl
  · simp only [Ytfdmndkoiheebaa.playR, h.right.b, Int.toNat_natCast]
    rw [if_neg (by simp), if_neg (by omega), h.back]; rfl
theorem PY.mo {w : World} {v : Value} {H ba : Nat} {us : List Value} {cur : Array Value} {xss : List (List Int)} (h : PY w v H ba us cur xss) : MO w v us xss := ⟨h.outer, fun i hi => ⟨_, (h.elems i hi).1, h.row i hi⟩⟩
theorem YO.mo {w w' : World} {v : Value} {h : Int} {xss : List (List Int)} (y : YO w w' v h xss) : ∃ us, MO w' v us xss := by
  rcases y with ⟨rfl, _, rfl⟩ | ⟨H, ba, us, cur, _, hP, _⟩
  · exact ⟨[], MO.nil _⟩
  · exact ⟨us, hP.mo⟩
theorem MO.upS {w w' : World} {v x : Value} {us : List Value} {xss : List (List Int)} {ty' : TypeId} {k' m : Nat} {ds : List Value} (h : MO w v us xss) (u : Upd (fun b => vblk x = some b) w w') (hx : Sl w ty' k' x m ds) (hne : 35 ≠ ty' ∧ 3 ≠ ty') : MO w' v us xss :=
  ⟨h.outer.upS u hx hne.1, fun i hi => by obtain ⟨y, h1, h2⟩ := h.elems i hi; exact ⟨y, h1, h2.upS u hx hne.2⟩⟩
theorem R.ldF {P : Program} {ops : Array Oper} {S : Bool → Nat → Prop} {dr : Bool} {B : List Nat} {F : Env → World → Prop} {rest : List Oper} {e : Env} {w w0 : World} {d : Tmp} {ty : TypeId} {pos : String} {aft : Array Edge} {x : Operand} {t : TypeId} {c : Bool} {k k' by_ n j : Nat} {z v u : Value} {cs : List Value} (hk : Ty P t k by_ false z) (hr : Row w0 k' v n cs) (hE : Ext w0 w) (hx : ev e x = elemPtr v j) (hj : cs[j]? = some u) (hc : B.contains d = c) (hS : ∀ b, b < w0.heap.size → S c b)
    (h : wpR P ops S dr (kind B) F rest (upd e d u) w) : wpR P ops S dr (kind B) F (⟨some d, .load t x, ty, pos, aft, none⟩ :: rest) e w :=
  R.load hk (hr.ext hE) hx hj hc (fun b hb => hS b (hr.blk_at (j := j) (List.getElem?_eq_some_iff.1 hj).1 b hb)) h
theorem yShiftM (w : World) {v : Value} {h f t h' e : Int} {us : List Value} {xss l : List (List Int)} (hm : Mat w v us xss) (hl : xss.length < 1000000) (hx : ∀ xs ∈ xss, xs.length < 1000000) (hp : shiftR xss h f t = (l, h', e)) :
    Calls Try.prog 36 #[.agg #[v, .int .i64 h], .agg #[.int .i64 f, .int .i64 t]] w (Ret fun r w' => Ext w w' ∧ ∃ u us, r = .tuple #[.agg #[u, .int .i64 h'], .int .i64 e] ∧ MO w' u us l) :=
  (yShiftP w ⟨_, hm⟩ hl hx hp).mono fun _ _ ⟨v, h1, h2, u, h3, h4⟩ => let ⟨us, h5⟩ := h4.mo; ⟨v, h1, h2, u, us, h3, h5⟩
theorem yPlayM (w : World) {v vm : Value} {h h' e : Int} {k : Nat} {us : List Value} {xss l : List (List Int)} {ms : List (Int × Int)} (hm : Mat w v us xss) (hms : Moves w vm ms) (hml : ms.length ≤ 9223372036854775807) (hl : xss.length < 1000000) (hx : ∀ xs ∈ xss, xs.length < 1000000) (hp : playR xss h ms = (l, h', k, e)) :
    Calls Try.prog 31 #[.agg #[v, .int .i64 h], vm] w (Ret fun r w' => Ext w w' ∧ ∃ u us, r = .tuple #[.agg #[u, .int .i64 h'], .int .i64 (k : Nat), .int .i64 e] ∧ MO w' u us l) :=
  (yPlayP w ⟨_, hm⟩ hms hml hl hx hp).mono fun _ _ ⟨v, h1, h2, u, h3, h4⟩ => let ⟨us, h5⟩ := h4.mo; ⟨v, h1, h2, u, us, h3, h5⟩
theorem movesC_cons (m : Int × Int) (ms : List (Int × Int)) : movesC (m :: ms) = [.int .i64 m.1, .int .i64 m.2] ++ movesC ms := rfl
end Go.Proofs.Ytfdmndkoiheebaa
