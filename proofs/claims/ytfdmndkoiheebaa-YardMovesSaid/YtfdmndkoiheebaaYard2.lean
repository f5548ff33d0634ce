/- Yards, in plain Lean: boxes that stand, are taken and put. -/
import Derived.Test.YtfdmndkoiheebaaE1
namespace Go.Proofs.Ytfdmndkoiheebaa

section
variable {xss : List (List Int)} {h : Int}
theorem RightP.l6 (hR : RightP xss h) : xss.length < 1000000 := by have := hR.2.2.2.1; omega
theorem RightP.x6 (hR : RightP xss h) : ∀ xs ∈ xss, xs.length < 1000000 := fun xs hx => by have := hR.2.2.2.2.1 xs hx; have := hR.2.1; omega
theorem RightP.l9 (hR : RightP xss h) : xss.length < 1000000000 := by have := hR.2.2.2.1; omega
theorem RightP.x9 (hR : RightP xss h) : ∀ xs ∈ xss, xs.length < 1000000000 := fun xs hx => by have := hR.2.2.2.2.1 xs hx; have := hR.2.1; omega
theorem RightP.b (hR : RightP xss h) : rightB xss h = true := rightB_true.2 hR
theorem RightP.fit (hR : RightP xss h) : Fit xss := ⟨by have := hR.2.2.2.1; omega, fun xs hx => by have := hR.2.2.2.2.1 xs hx; have := hR.2.1; omega⟩
theorem RightP.rows (hR : RightP xss h) : (∀ xs ∈ xss, xs.Nodup) ∧ xss.Pairwise (fun l₁ l₂ => ∀ x ∈ l₁, ∀ y ∈ l₂, x ≠ y) := List.pairwise_flatten.1 hR.2.2.2.2.2.2
theorem RightP.find (hR : RightP xss h) {i k : Nat} (hi : i < xss.length) (hk : k < xss[i].length) : findL xss xss[i][k] = some (i, k) := by
  obtain ⟨h1, h2⟩ := hR.rows
  rw [findL_hit hi (fun xs hx hb => ?_) (List.getElem_mem hk), (h1 _ (List.getElem_mem hi)).idxOf_getElem]
  obtain ⟨j, hj, rfl⟩ := List.mem_iff_getElem.1 hx
  rw [List.length_take] at hj
  rw [List.getElem_take] at hb
  exact (List.pairwise_iff_getElem.1 h2 j i (by omega) hi (by omega)) _ hb _ (List.getElem_mem hk) rfl
theorem RightP.above (hR : RightP xss h) {i k : Nat} (hi : i < xss.length) (hk : k < xss[i].length) : aboveL xss h xss[i][k] = ((xss[i].drop (k + 1)).reverse, 0) := by
  simp [aboveL, hR.b, hR.find hi hk, hi]
theorem RightP.take_under (hR : RightP xss h) {i k : Nat} (hi : i < xss.length) (hk : k < xss[i].length) (hu : k + 1 < xss[i].length) : takeR xss h xss[i][k] = ([], 0, 342) := by
  simp [takeR, hR.b, hR.find hi hk, hi, hu]
theorem RightP.take_top (hR : RightP xss h) {i k : Nat} (hi : i < xss.length) (hk : k < xss[i].length) (hu : k + 1 = xss[i].length) : takeR xss h xss[i][k] = (xss.set i (xss[i].take k), h, 0) := by
  have : ¬ k + 1 < xss[i].length := by omega
  simp [takeR, hR.b, hR.find hi hk, hi, this]
theorem set_take_back {i k : Nat} (hi : i < xss.length) (hk : k < xss[i].length) (hu : k + 1 = xss[i].length) : (xss.set i (xss[i].take k)).set i (xss[i].take k ++ [xss[i][k]]) = xss := by
  rw [List.set_set, List.take_append_getElem, List.take_of_length_le (by omega), List.set_getElem_self]
theorem flatten_take_perm {i k : Nat} (hi : i < xss.length) (hk : k < xss[i].length) (hu : k + 1 = xss[i].length) : xss.flatten.Perm (xss[i][k] :: (xss.set i (xss[i].take k)).flatten) := by
  have hi' : i < (xss.set i (xss[i].take k)).length := by simpa using hi
  have := flatten_set_perm hi' xss[i][k]
  simp only [List.getElem_set_self] at this
  rw [set_take_back hi hk hu] at this
  exact this
theorem RightP.taken (hR : RightP xss h) {i k : Nat} (hi : i < xss.length) (hk : k < xss[i].length) (hu : k + 1 = xss[i].length) : RightP (xss.set i (xss[i].take k)) h ∧ xss[i][k] ∉ (xss.set i (xss[i].take k)).flatten := by
  have hp := flatten_take_perm hi hk hu
  obtain ⟨h1, h2, h3, h4, h5, h6, h7⟩ := hR
  rw [hp.nodup_iff, List.nodup_cons] at h7
  refine ⟨⟨h1, h2, by simpa using h3, by simpa using h4, fun xs hx => ?_, fun b hb => h6 b (hp.mem_iff.2 (List.mem_cons_of_mem _ hb)), h7.2⟩, h7.1⟩
  rcases List.mem_or_eq_of_mem_set hx with hx | rfl
  · exact h5 xs hx
  · have := h5 _ (List.getElem_mem hi); simp; omega
theorem findL_not {b : Int} (hb : b ∉ xss.flatten) : findL xss b = none := findL_miss fun xs hx hbx => hb (List.mem_flatten.2 ⟨xs, hx, hbx⟩)
theorem findV_not {b : Int} (hb : b ∉ xss.flatten) : findV xss b = .tuple #[.int .i64 0, .int .i64 0, .bool false] := by simp [findV, findL_not hb]
theorem RightP.findV (hR : RightP xss h) {i k : Nat} (hi : i < xss.length) (hk : k < xss[i].length) : Ytfdmndkoiheebaa.findV xss xss[i][k] = .tuple #[.int .i64 i, .int .i64 k, .bool true] := by simp [Ytfdmndkoiheebaa.findV, hR.find hi hk]
/-- A box put where there is room. -/
theorem RightP.put (hR : RightP xss h) {b : Int} {i : Nat} (hi : i < xss.length) (hb : b ∉ xss.flatten) (h1 : 1 ≤ b) (h2 : b ≤ 999999) (hr : (xss[i].length : Int) < h) :
    putR xss h b i = (xss.set i (xss[i] ++ [b]), h, 0) ∧ RightP (xss.set i (xss[i] ++ [b])) h := by
  constructor
  · simp only [putR, findL_not hb, hR.b]
    rw [if_neg (by simp; omega), if_neg (by simp), if_neg (by omega), Int.toNat_natCast]
    have : xss.getD i [] = xss[i] := by simp [hi]
    rw [this, if_neg (by omega)]
  · have hp := flatten_set_perm hi b
    obtain ⟨q1, q2, q3, q4, q5, q6, q7⟩ := hR
    refine ⟨q1, q2, by simpa using q3, by simpa using q4, fun xs hx => ?_, fun c hc => ?_, ?_⟩
    · rcases List.mem_or_eq_of_mem_set hx with hx | rfl
      · exact q5 xs hx
      · simp; omega
    · rcases List.mem_cons.1 (hp.mem_iff.1 hc) with rfl | hc
      · exact ⟨h1, h2⟩
      · exact q6 c hc
    · rw [hp.nodup_iff, List.nodup_cons]; exact ⟨hb, q7⟩
theorem RightP.put_full (hR : RightP xss h) {b : Int} {i : Nat} (hi : i < xss.length) (hb : b ∉ xss.flatten) (h1 : 1 ≤ b) (h2 : b ≤ 999999) (hr : (xss[i].length : Int) = h) : putR xss h b i = ([], 0, 4) := by
  simp only [putR, findL_not hb, hR.b]
  rw [if_neg (by simp; omega), if_neg (by simp), if_neg (by omega), Int.toNat_natCast]
  have : xss.getD i [] = xss[i] := by simp [hi]
  rw [this, if_pos hr]
theorem RightP.count {H : Nat} (hR : RightP xss (H : Int)) : xss.flatten.length ≤ xss.length * H := flatten_le fun xs hx => by have := hR.2.2.2.2.1 xs hx; omega
theorem RightP.room {H : Nat} (hR : RightP xss (H : Int)) : roomL xss H = (((xss.length * H - xss.flatten.length : Nat) : Int), 0) := by
  have := hR.count
  simp only [roomL, hR.b, if_true]
  rw [Int.ofNat_sub this, Int.natCast_mul]
end
theorem yTakeP (w : World) {v : Value} {h b h' e : Int} {xss l : List (List Int)} (hm : ∃ us, Mat w v us xss) (hl : xss.length < 1000000) (hx : ∀ xs ∈ xss, xs.length < 1000000) (hp : takeR xss h b = (l, h', e)) :
    Calls Try.prog 25 #[.agg #[v, .int .i64 h], .int .i64 b] w (Ret fun r w' => Ext w w' ∧ ∃ u, r = .tuple #[.agg #[u, .int .i64 h'], .int .i64 e] ∧ YO w w' u h' l) := by
  have := yTakeE w (h := h) (b := b) hm hl hx; rw [hp] at this; exact this
theorem yPutP (w : World) {v : Value} {h b s h' e : Int} {xss l : List (List Int)} (hm : ∃ us, Mat w v us xss) (hl : xss.length < 1000000) (hx : ∀ xs ∈ xss, xs.length < 1000000) (hp : putR xss h b s = (l, h', e)) :
    Calls Try.prog 26 #[.agg #[v, .int .i64 h], .int .i64 b, .int .i64 s] w (Ret fun r w' => Ext w w' ∧ ∃ u, r = .tuple #[.agg #[u, .int .i64 h'], .int .i64 e] ∧ YO w w' u h' l) := by
  have := yPutE w (h := h) (b := b) (s := s) hm hl hx; rw [hp] at this; exact this
theorem yShiftP (w : World) {v : Value} {h f t h' e : Int} {xss l : List (List Int)} (hm : ∃ us, Mat w v us xss) (hl : xss.length < 1000000) (hx : ∀ xs ∈ xss, xs.length < 1000000) (hp : shiftR xss h f t = (l, h', e)) :
    Calls Try.prog 36 #[.agg #[v, .int .i64 h], .agg #[.int .i64 f, .int .i64 t]] w (Ret fun r w' => Ext w w' ∧ ∃ u, r = .tuple #[.agg #[u, .int .i64 h'], .int .i64 e] ∧ YO w w' u h' l) := by
  have := yShiftE w (h := h) (f := f) (t := t) hm hl hx; rw [hp] at this; exact this
theorem aboveP (w : World) {v : Value} {h b e : Int} {l : List Int} {xss : List (List Int)} (hm : ∃ us, Mat w v us xss) (hl : xss.length < 1000000) (hx : ∀ xs ∈ xss, xs.length < 1000000) (hp : aboveL xss h b = (l, e)) :
    Calls Try.prog 24 #[.agg #[v, .int .i64 h], .int .i64 b] w (Ret fun r w' => Ext w w' ∧ ∃ u, r = .tuple #[u, .int .i64 e] ∧ SInts w' u l ∧ Fresh w u) := by
  have := aboveE w (h := h) (b := b) hm hl hx; rw [hp] at this; exact this
theorem roomP (w : World) {v : Value} {h a e : Int} {xss : List (List Int)} (hm : ∃ us, Mat w v us xss) (hl : xss.length < 1000000) (hx : ∀ xs ∈ xss, xs.length < 1000000) (hp : roomL xss h = (a, e)) :
    Calls Try.prog 29 #[.agg #[v, .int .i64 h]] w (Ret fun r w' => Ext w w' ∧ r = .tuple #[.int .i64 a, .int .i64 e]) := by
  have := roomE w (h := h) hm hl hx; rw [hp] at this; exact this
theorem rightP (w : World) {v : Value} {h : Int} {b : Bool} {xss : List (List Int)} (hm : ∃ us, Mat w v us xss) (hl : xss.length < 1000000) (hx : ∀ xs ∈ xss, xs.length < 1000000) (hp : rightB xss h = b) :
    Calls Try.prog 27 #[.agg #[v, .int .i64 h]] w (Ret fun r w' => Ext w w' ∧ r = .bool b) := by
  have := rightE w (h := h) hm hl hx; rw [hp] at this; exact this
end Go.Proofs.Ytfdmndkoiheebaa
