import Derived.Test.YtfdmndkoiheebaaZ12J23
namespace Go.Proofs.Ytfdmndkoiheebaa
section
variable {ys : List (List Int)} {H : Nat} {ord : List Int} {nx a k : Nat} {ov : List Int} {b : Int} {ss : List (Int × Int × Int)}
theorem lowF_le {x : Int} : ∀ (s : List Int) (L : Nat), (x ∈ s → lowF ord L s ≤ rankL ord x) ∧ lowF ord L s ≤ L
  | [], L => ⟨fun h => (List.not_mem_nil h).elim, Nat.le_refl _⟩
  | c :: cs, L => by
    have e : lowF ord L (c :: cs) = lowF ord (min L (rankL ord c)) cs := rfl
    obtain ⟨h1, h2⟩ := lowF_le (x := x) cs (min L (rankL ord c))
    rw [e]
    refine ⟨fun h => ?_, by omega⟩
    rcases List.mem_cons.1 h with rfl | h
    · omega
    · exact h1 h
theorem wayL_ge {s : List Int} : ∀ (ys : List (List Int)), s ∈ ys → wayR ord ord.length s ≤ wayL ord ys
  | [], h => (List.not_mem_nil h).elim
  | x :: ys, h => by
    simp only [wayL, List.map_cons, List.sum_cons]
    rcases List.mem_cons.1 h with rfl | h
    · omega
    · have := wayL_ge ys h; simp only [wayL] at this; omega
theorem OverJ.way (h : OverJ ys H ord nx a k (b :: ov)) (hg : Gone ys ord nx) : 0 < wayL ord ys := by
  have hl := h.len
  have ha := h.la
  have hk := h.lk
  simp at hl
  have ht := h.top
  rw [topL_at ha (by omega)] at ht
  have e : ys[a] = ys[a].take (ys[a].length - 1) ++ [b] := by
    rw [← ht, List.take_append_getElem, List.take_of_length_le (by omega)]
  have hm : ord[nx]'h.ln ∈ ys[a].take (ys[a].length - 1) := by
    rw [List.mem_iff_getElem]
    exact ⟨k, by rw [List.length_take]; omega, by rw [List.getElem_take, h.box]⟩
  have hbm : b ∈ ys.flatten := List.mem_flatten.2 ⟨_, List.getElem_mem ha, by rw [← ht]; exact List.getElem_mem _⟩
  have hbr : nx < rankL ord b := by
    rcases rank_ge (fun hx => hg b hx hbm) with h1 | h1
    · rcases Nat.lt_or_ge nx (rankL ord b) with h2 | h2
      · exact h2
      · exfalso
        have hq : rankL ord b = nx := by omega
        have hbo : b ∈ ord := by
          rcases Decidable.em (b ∈ ord) with h3 | h3
          · exact h3
          · have := h.ln; simp [rankL, h3] at hq; omega
        have e1 : ord.idxOf b = nx := by simpa [rankL, hbo] using hq
        have e2 : ord[nx]'h.ln = b := by
          have := List.getElem_idxOf (List.idxOf_lt_length_iff.2 hbo)
          simpa [e1] using this
        have := (h.good.right.inj ha (show ys[a].length - 1 < ys[a].length by omega) ha hk (by rw [ht, h.box, e2])).2
        omega
    · have := h.ln; omega
  have h1 := wayR_snoc (ord := ord) b (ys[a].take (ys[a].length - 1)) ord.length
  rw [← e] at h1
  have h2 := (lowF_le (ord := ord) (x := ord[nx]'h.ln) (ys[a].take (ys[a].length - 1)) ord.length).1 hm
  rw [rank_at h.good.nodup h.ln] at h2
  rw [if_pos (by omega)] at h1
  have h3 := wayL_ge (ord := ord) ys (List.getElem_mem ha)
  omega
theorem Str.free (h : Str H ord ys nx ss) : GoodJ ys H ord nx → Gone ys ord nx → wayL ord ys = 0 → cnt ss = 0 := by
  induction h with
  | done h => intro _ _ _; rfl
  | @leave ys nx a k ss h hs ih =>
    intro hG hg hw
    obtain ⟨_, hd, hG1, _⟩ := h.leave
    obtain ⟨q1, q2⟩ := doL_way hG.right hG.nodup hg hd
    rw [cnt_leave]
    exact ih hG1 q1 (by rcases q2 with ⟨_, q2⟩ | ⟨q2, _⟩ <;> omega)
  | move h hj hja hjH hs ih =>
    intro hG hg hw
    have := h.way hg
    omega
theorem Str.goP (h : Str H ord ys nx ss) : nx ≤ ord.length → ∀ c, Ytfdmndkoiheebaa.goP H ord ys nx ss c = (c + cnt ss, true) := by
  induction h with
  | @done ys nx h =>
    intro hn c
    simp only [Ytfdmndkoiheebaa.goP, cnt]
    congr 1
    exact decide_eq_true (by omega)
  | @leave ys nx a k ss h hs ih =>
    intro hn c
    obtain ⟨_, hd, hG1, _⟩ := h.leave
    have hln := h.ln
    have e : Ytfdmndkoiheebaa.goP H ord ys nx ((ord[nx]'h.ln, (a : Int), -1) :: ss) c = Ytfdmndkoiheebaa.goP H ord (ys.set a ((ys[a]'h.la).take k)) (nx + 1) ss c := by
      simp only [Ytfdmndkoiheebaa.goP, hd]; rfl
    rw [e, ih (by omega), cnt_leave]
  | @move ys nx a k j b ov ss h hj hja hjH hs ih =>
    intro hn c
    obtain ⟨hO1, _, hd⟩ := h.next hj hja hjH
    have e : Ytfdmndkoiheebaa.goP H ord ys nx ((b, (a : Int), (j : Int)) :: ss) c = Ytfdmndkoiheebaa.goP H ord (shiftL ys H a j).1 nx ss (c + 1) := by
      simp only [Ytfdmndkoiheebaa.goP, hd]; rw [if_pos (by omega)]
    rw [e, ih hn, cnt_move]; congr 1; omega
theorem goP_way : ∀ (ss : List (Int × Int × Int)) (ys : List (List Int)) (nx c m : Nat), RightP ys (H : Int) → ord.Nodup → Gone ys ord nx → goP H ord ys nx ss c = (m, true) → wayL ord ys + c ≤ m
  | [], ys, nx, c, m, hR, hn, hg, h => by
    simp only [goP, Prod.mk.injEq, decide_eq_true_eq] at h
    obtain ⟨rfl, rfl⟩ := h
    rw [wayL_zero ys (fun x hx => ?_)]
    · omega
    · have h1 : x ∉ ord.take ord.length := fun hm => hg x hm hx
      rw [List.take_length] at h1
      simp [rankL, h1]
  | s :: ss, ys, nx, c, m, hR, hn, hg, h => by
    rcases hd : doL ys H ord nx s with _ | ⟨zs, n'⟩
    · simp [goP, hd] at h
    · simp only [goP, hd] at h
      obtain ⟨q1, q2⟩ := doL_way (b := s.1) (f := s.2.1) (t := s.2.2) hR hn hg hd
      have := goP_way ss zs n' _ m (doL_right hR hd) hn q1 h
      rcases q2 with ⟨q2, q3⟩ | ⟨q2, q3⟩
      · rw [if_neg (by omega)] at this; omega
      · rw [if_pos q2] at this; omega
theorem runG_str : ∀ (n : Nat) (ys : List (List Int)) (nx : Nat) (acc : List (Int × Int × Int)), GoodJ ys H ord nx → nx ≤ ord.length → (∀ h : nx < ord.length, 7 * (ord.length - nx) + abv ys ord[nx] ≤ n) →
    runG H ord n ys nx acc = ([], 4) ∨ ∃ ss, runG H ord n ys nx acc = (acc ++ ss, 0) ∧ Str H ord ys nx ss := by
  intro n
  induction n with
  | zero =>
    intro ys nx acc hG hn hf
    have hn1 : ¬ nx < ord.length := fun h => by have := hf h; omega
    exact .inr ⟨[], by rw [runG_end hn1, List.append_nil], .done hn1⟩
  | succ n ih =>
    intro ys nx acc hG hn hf
    by_cases hn1 : nx < ord.length
    · have hf1 := hf hn1
      obtain ⟨a, k, ov, hO, _⟩ := OverJ.start hG hn1
      cases ov with
      | nil =>
        obtain ⟨ht1, hdo, hG1, _⟩ := hO.leave
        rw [runG_leave hn1 hO.find ht1 hdo]
        rcases ih _ (nx + 1) (acc ++ [(ord[nx], (a : Int), -1)]) hG1 (by omega) (fun h2 => by have := hG1.abv_le ord[nx + 1]; omega) with h | ⟨ss, h1, h2⟩
        · exact .inl h
        · exact .inr ⟨_, by rw [h1, List.append_assoc]; rfl, .leave hO h2⟩
      | cons b ov =>
        by_cases hf4 : (othB ys H ord ((a : Nat) : Int) ys.length).1 < 0
        · exact .inl (runG_full hn1 hO.find hO.ne hf4)
        · obtain ⟨j, hj, e1, hjf, hjH⟩ : ∃ (j : Nat) (hj : j < ys.length), (othB ys H ord ((a : Nat) : Int) ys.length).1 = j ∧ (j : Int) ≠ ((a : Nat) : Int) ∧ ys[j].length ≠ H := by
            rcases othB_spec (xss := ys) (H := H) (ord := ord) (fr := ((a : Nat) : Int)) ys.length (Nat.le_refl _) with q | ⟨j, hj, _, q1, q2, q3, _⟩
            · rw [q] at hf4; exact absurd (by decide) hf4
            · exact ⟨j, hj, q1, q2, q3⟩
          obtain ⟨hO1, hsh, hdo⟩ := hO.next hj (by omega) hjH
          have htop := hO.top
          have hl := hO.len
          simp at hl
          have hab := (hG.reloc hO.la hO.lk (by omega) hj (by omega) hjH).2.2
          rw [hO.box] at hab
          have hrl1 := runG_reloc (acc := acc) (n := n) hn1 hO.find hO.ne hf4 (ys := (shiftL ys H a j).1) (n' := nx) (by rw [e1, htop]; exact hdo)
          rw [htop, e1] at hrl1
          rw [hrl1]
          rcases ih _ nx (acc ++ [(b, (a : Int), (j : Int))]) hO1.good hn (fun _ => by omega) with h | ⟨ss, h1, h2⟩
          · exact .inl h
          · exact .inr ⟨_, by rw [h1, List.append_assoc]; rfl, .move hO hj (by omega) hjH h2⟩
    · exact .inr ⟨[], by rw [runG_end hn1, List.append_nil], .done hn1⟩
end
section
variable {xss : List (List Int)} {H : Nat} {ord : List Int}
theorem runR_str (hb : beginB xss H ord = true) : runR xss H ord = ([], 4) ∨ ∃ ss, runR xss H ord = (ss, 0) ∧ Str H ord xss 0 ss := by
  have hG := GoodJ.start hb
  have e : runR xss H ord = runG H ord (7 * ord.length + 7) xss 0 [] := by simp [runR, hb]
  rw [e]
  rcases runG_str (7 * ord.length + 7) xss 0 [] hG (Nat.zero_le _) (fun h => by have := hG.abv_le ord[0]; omega) with h | ⟨ss, h1, h2⟩
  · exact .inl h
  · exact .inr ⟨ss, by simpa using h1, h2⟩
theorem leastS_str (hG : GoodJ xss H ord 0) {ss : List (Int × Int × Int)} (h : leastS H ord xss = some ss) : Str H ord xss 0 ss ∧ ∀ m, m < cnt ss → tryL H ord xss 0 m = none := by
  have key : ∀ n, (List.range n).findSome? (fun m => tryL H ord xss 0 m) = some ss → ∃ m, m < n ∧ tryL H ord xss 0 m = some ss ∧ ∀ i, i < m → tryL H ord xss 0 i = none := by
    intro n
    induction n with
    | zero => intro h; simp at h
    | succ n ih =>
      intro h
      rw [List.range_succ, List.findSome?_append] at h
      rcases h0 : (List.range n).findSome? (fun m => tryL H ord xss 0 m) with _ | x
      · rw [h0] at h
        simp at h
        refine ⟨n, by omega, h, fun i hi => ?_⟩
        rw [List.findSome?_eq_none_iff] at h0
        exact h0 i (by simpa using hi)
      · rw [h0] at h
        simp at h
        subst h
        obtain ⟨m, h1, h2, h3⟩ := ih h0
        exact ⟨m, by omega, h2, h3⟩
  obtain ⟨m, _, h1, h2⟩ := key 16 h
  obtain ⟨q1, q2⟩ := try_str _ _ _ _ _ rfl hG h1
  exact ⟨q1, fun i hi => h2 i (by omega)⟩
theorem leastS_none (hG : GoodJ xss H ord 0) (h6 : xss.flatten.length ≤ 6) (h : leastS H ord xss = none) {ss : List (Int × Int × Int)} (hs : Str H ord xss 0 ss) : False := by
  have h1 := hs.tri hG
  have h2 : tri xss.flatten.length ≤ 15 := by
    have : ∀ n, n ≤ 6 → tri n ≤ 15 := by
      intro n hn
      rcases (show n = 0 ∨ n = 1 ∨ n = 2 ∨ n = 3 ∨ n = 4 ∨ n = 5 ∨ n = 6 by omega) with rfl | rfl | rfl | rfl | rfl | rfl | rfl <;> decide
    exact this _ h6
  unfold leastS at h
  rw [List.findSome?_eq_none_iff] at h
  have h3 := h (cnt ss) (by simp; omega)
  have h4 := hs.try (cnt ss) (Nat.le_refl _)
  rw [h3] at h4
  cases h4
theorem leastR_kind (hb : beginB xss H ord = true) : ((6 < xss.flatten.length ∨ 4 < xss.length) ∧ leastR xss H ord = ([], 5)) ∨ (xss.flatten.length ≤ 6 ∧ leastR xss H ord = ([], 4) ∧ ∀ ss, ¬ Str H ord xss 0 ss) ∨
    ∃ ss, leastR xss H ord = (ss, 0) ∧ Str H ord xss 0 ss ∧ ∀ m, m < cnt ss → tryL H ord xss 0 m = none := by
  have hG := GoodJ.start hb
  unfold leastR
  rw [if_pos hb]
  by_cases h : 6 < xss.flatten.length ∨ 4 < xss.length
  · rw [if_pos h]; exact .inl ⟨h, rfl⟩
  · rw [if_neg h, Int.toNat_natCast]
    rcases hS : leastS H ord xss with _ | ss
    · exact .inr (.inl ⟨by omega, rfl, fun ss hs => leastS_none hG (by omega) hS hs⟩)
    · obtain ⟨h1, h2⟩ := leastS_str hG hS
      exact .inr (.inr ⟨ss, rfl, h1, h2⟩)
theorem least_le {ss tt : List (Int × Int × Int)} (h : ∀ m, m < cnt ss → tryL H ord xss 0 m = none) (ht : Str H ord xss 0 tt) : cnt ss ≤ cnt tt := by
  rcases Nat.lt_or_ge (cnt tt) (cnt ss) with h1 | h1
  · have h2 := ht.try (cnt tt) (Nat.le_refl _)
    rw [h _ h1] at h2
    cases h2
  · exact h1
theorem checkR_goP (hb : beginB xss H ord = true) {ss : List (Int × Int × Int)} (hl : ss.length ≤ 2000) :
    ((checkR xss H ord ss).2 = 0 ∧ goP H ord xss 0 ss 0 = ((checkR xss H ord ss).1, true)) ∨ (((checkR xss H ord ss).2 = 350 ∨ (checkR xss H ord ss).2 = 351) ∧ (goP H ord xss 0 ss 0).2 = false) := by
  have e : checkR xss H ord ss = goL H ord xss 0 ss 0 0 := by
    unfold checkR
    rw [if_pos hb, if_neg (by omega), Int.toNat_natCast]
  rw [e]
  exact goL_goP ss xss 0 0 0 (Nat.zero_le _)
end
end Go.Proofs.Ytfdmndkoiheebaa
