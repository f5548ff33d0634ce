import Derived.Test.YtfdmndkoiheebaaZ10J23
import Derived.Test.YtfdmndkoiheebaaZ10J10
namespace Go.Proofs.Ytfdmndkoiheebaa
section
variable {ys : List (List Int)} {H : Nat} {ord : List Int} {nx a k : Nat} {ov : List Int} {b : Int} {ss : List (Int × Int × Int)}
theorem lowF_le {x : Int} : ∀ (s : List Int) (L : Nat), (x ∈ s → lowF ord L s ≤ rankL ord x) ∧ lowF ord L s ≤ L
  | [], L => ⟨fun h => (List.not_mem_nil h).elim, Nat.le_refl _⟩
  | c :: cs, L => by
    have e : lowF ord L (c :: cs) = lowF ord (min L (rankL ord c)) cs := rfl
    obtain ⟨h1, h2⟩ := lowF_le (x := x) cs (min L (rankL ord c))
    rw [e]
    refine ⟨fun h => ?_, by omega⟩
    rcases List.mem_cons.1 h with rfl | h
    · omega
    · exact h1 h
theorem wayL_ge {s : List Int} : ∀ (ys : List (List Int)), s ∈ ys → wayR ord ord.length s ≤ wayL ord ys
  | [], h => (List.not_mem_nil h).elim
  | x :: ys, h => by
    simp only [wayL, List.map_cons, List.sum_cons]
    rcases List.mem_cons.1 h with rfl | h
    · omega
    · have := wayL_ge ys h; simp only [wayL] at this; omega
theorem OverJ.way (h : OverJ ys H ord nx a k (b :: ov)) (hg : Gone ys ord nx) : 0 < wayL ord ys := by
  have hl := h.len
  have ha := h.la
  have hk := h.lk
  simp at hl
  have ht := h.top
  rw [topL_at ha (by omega)] at ht
  have e : ys[a] = ys[a].take (ys[a].length - 1) ++ [b] := by
    rw [← ht, List.take_append_getElem, List.take_of_length_le (by omega)]
  have hm : ord[nx]'h.ln ∈ ys[a].take (ys[a].length - 1) := by
    rw [List.mem_iff_getElem]
    exact ⟨k, by rw [List.length_take]; omega, by rw [List.getElem_take, h.box]⟩
  have hbm : b ∈ ys.flatten := List.mem_flatten.2 ⟨_, List.getElem_mem ha, by rw [← ht]; exact List.getElem_mem _⟩
  have hbr : nx < rankL ord b := by
    rcases rank_ge (fun hx => hg b hx hbm) with h1 | h1
    · rcases Nat.lt_or_ge nx (rankL ord b) with h2 | h2
      · exact h2
      · exfalso
        have hq : rankL ord b = nx := by omega
        have hbo : b ∈ ord := by
          rcases Decidable.em (b ∈ ord) with h3 | h3
          · exact h3
          · have := h.ln; simp [rankL, h3] at hq; omega
        have e1 : ord.idxOf b = nx := by simpa [rankL, hbo] using hq
        have e2 : ord[nx]'h.ln = b := by
          have := List.getElem_idxOf (List.idxOf_lt_length_iff.2 hbo)
          simpa [e1] using this
        have := (h.good.right.inj ha (show ys[a].length - 1 < ys[a].length by omega) ha hk (by rw [ht, h.box, e2])).2
        omega
    · have := h.ln; omega
  have h1 := wayR_snoc (ord := ord) b (ys[a].take (ys[a].length - 1)) ord.length
  rw [← e] at h1
  have h2 := (lowF_le (ord := ord) (x := ord[nx]'h.ln) (ys[a].take (ys[a].length - 1)) ord.length).1 hm
  rw [rank_at h.good.nodup h.ln] at h2
  rw [if_pos (by omega)] at h1
  have h3 := wayL_ge (ord := ord) ys (List.getElem_mem ha)
  omega
theorem Str.goP (h : Str H ord ys nx ss) : nx ≤ ord.length → ∀ c, Ytfdmndkoiheebaa.goP H ord ys nx ss c = (c + cnt ss, true) := by
  induction h with
  | @done ys nx h =>
    intro hn c
    simp only [Ytfdmndkoiheebaa.goP, cnt]
    congr 1
    exact decide_eq_true (by omega)
  | @leave ys nx a k ss h hs ih =>
    intro hn c
    obtain ⟨_, hd, hG1, _⟩ := h.leave
    have hln := h.ln
    have e : Ytfdmndkoiheebaa.goP H ord ys nx ((ord[nx]'h.ln, (a : Int), -1) :: ss) c = Ytfdmndkoiheebaa.goP H ord (ys.set a ((ys[a]'h.la).take k)) (nx + 1) ss c := by
      simp only [Ytfdmndkoiheebaa.goP, hd]; rfl
    rw [e, ih (by omega), cnt_leave]
  | @move ys nx a k j b ov ss h hj hja hjH hs ih =>
    intro hn c
    obtain ⟨hO1, _, hd⟩ := h.next hj hja hjH
    have e : Ytfdmndkoiheebaa.goP H ord ys nx ((b, (a : Int), (j : Int)) :: ss) c = Ytfdmndkoiheebaa.goP H ord (shiftL ys H a j).1 nx ss (c + 1) := by
      simp only [Ytfdmndkoiheebaa.goP, hd]; rw [if_pos (by omega)]
    rw [e, ih hn, cnt_move]; congr 1; omega
end
section
variable {xss : List (List Int)} {H : Nat} {ord : List Int}
theorem leastS_str (hG : GoodJ xss H ord 0) {ss : List (Int × Int × Int)} (h : leastS H ord xss = some ss) : Str H ord xss 0 ss ∧ ∀ m, m < cnt ss → tryL H ord xss 0 m = none := by
  have key : ∀ n, (List.range n).findSome? (fun m => tryL H ord xss 0 m) = some ss → ∃ m, m < n ∧ tryL H ord xss 0 m = some ss ∧ ∀ i, i < m → tryL H ord xss 0 i = none := by
    intro n
    induction n with
    | zero => intro h; simp at h
    | succ n ih =>
      intro h
      rw [List.range_succ, List.findSome?_append] at h
      rcases h0 : (List.range n).findSome? (fun m => tryL H ord xss 0 m) with _ | x
      · rw [h0] at h
        simp at h
        refine ⟨n, by omega, h, fun i hi => ?_⟩
        rw [List.findSome?_eq_none_iff] at h0
        exact h0 i (by simpa using hi)
      · rw [h0] at h
        simp at h
        subst h
        obtain ⟨m, h1, h2, h3⟩ := ih h0
        exact ⟨m, by omega, h2, h3⟩
  obtain ⟨m, _, h1, h2⟩ := key 16 h
  obtain ⟨q1, q2⟩ := try_str _ _ _ _ _ rfl hG h1
  exact ⟨q1, fun i hi => h2 i (by omega)⟩
theorem leastS_none (hG : GoodJ xss H ord 0) (h6 : xss.flatten.length ≤ 6) (h : leastS H ord xss = none) {ss : List (Int × Int × Int)} (hs : Str H ord xss 0 ss) : False := by
  have h1 := hs.tri hG
  have h2 : tri xss.flatten.length ≤ 15 := by
    have : ∀ n, n ≤ 6 → tri n ≤ 15 := by
      intro n hn
      rcases (show n = 0 ∨ n = 1 ∨ n = 2 ∨ n = 3 ∨ n = 4 ∨ n = 5 ∨ n = 6 by omega) with rfl | rfl | rfl | rfl | rfl | rfl | rfl <;> decide
    exact this _ h6
  unfold leastS at h
  rw [List.findSome?_eq_none_iff] at h
  have h3 := h (cnt ss) (by simp; omega)
  have h4 := hs.try (cnt ss) (Nat.le_refl _)
  rw [h3] at h4
  cases h4
theorem leastR_kind (hb : beginB xss H ord = true) : ((6 < xss.flatten.length ∨ 4 < xss.length) ∧ leastR xss H ord = ([], 5)) ∨ (xss.flatten.length ≤ 6 ∧ leastR xss H ord = ([], 4) ∧ ∀ ss, ¬ Str H ord xss 0 ss) ∨
    ∃ ss, leastR xss H ord = (ss, 0) ∧ Str H ord xss 0 ss ∧ ∀ m, m < cnt ss → tryL H ord xss 0 m = none := by
  have hG := GoodJ.start hb
  unfold leastR
  rw [if_pos hb]
  by_cases h : 6 < xss.flatten.length ∨ 4 < xss.length
  · rw [if_pos h]; exact .inl ⟨h, rfl⟩
  · rw [if_neg h, Int.toNat_natCast]
    rcases hS : leastS H ord xss with _ | ss
    · exact .inr (.inl ⟨by omega, rfl, fun ss hs => leastS_none hG (by omega) hS hs⟩)
    · obtain ⟨h1, h2⟩ := leastS_str hG hS
      exact .inr (.inr ⟨ss, rfl, h1, h2⟩)
end
end Go.Proofs.Ytfdmndkoiheebaa

namespace Go.Proofs.Ytfdmndkoiheebaa
open Go Go.RowKit
theorem beginB_of {xss : List (List Int)} {h : Int} {ord : List Int} (hR : RightP xss h) (hO : OrdP xss ord) : beginB xss h ord = true := by
  simp only [beginB, Bool.and_eq_true, decide_eq_true_eq]
  exact ⟨rightB_true.2 hR, hO⟩
theorem playedP (w : World) {v vo vss : Value} {H m : Nat} {q : Bool} {us : List Value} {xss : List (List Int)} {ord : List Int} {ss : List (Int × Int × Int)} (hm : Mat w v us xss) (ho : Ints w vo ord) (hss : Steps w vss ss) (hRP : RightP xss (H : Int)) (hol : ord.length < 1000000) (hsl : ss.length < 1000000000) (hp : goP H ord xss 0 ss 0 = (m, q)) :
    Calls Try.prog 41 #[.agg #[v, .int .i64 H], vo, vss] w (Ret fun r w' => Ext w w' ∧ r = .tuple #[.int .i64 (m : Nat), .bool q]) := by
  have := played_ w hm ho hss hRP hol hsl; rw [hp] at this; exact this
theorem yLeastP (w : World) {v vo : Value} {h e : Int} {l : List (Int × Int × Int)} {us : List Value} {xss : List (List Int)} {ord : List Int} (hm : Mat w v us xss) (ho : Ints w vo ord) (hl : xss.length < 1000000) (hx : ∀ xs ∈ xss, xs.length < 1000000) (hol : ord.length < 100000) (hp : leastR xss h ord = (l, e)) :
    Calls Try.prog 40 #[.agg #[v, .int .i64 h], vo] w (Ret fun r w' => Ext w w' ∧ ∃ u, r = .tuple #[u, .int .i64 e] ∧ Sl w' 68 3 u l.length (stepsC l) ∧ Fresh w u) := by
  have := yLeast w (h := h) hm ho hl hx hol; rw [hp] at this; exact this
end Go.Proofs.Ytfdmndkoiheebaa
