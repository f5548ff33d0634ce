/- Yards, in plain Lean. -/
namespace Go.Proofs.Ytfdmndkoiheebaa

/-- A yard is right. -/
def RightP (xss : List (List Int)) (h : Int) : Prop :=
  1 ≤ h ∧ h ≤ 6 ∧ 1 ≤ xss.length ∧ xss.length ≤ 30 ∧ (∀ xs ∈ xss, (xs.length : Int) ≤ h) ∧ (∀ b ∈ xss.flatten, 1 ≤ b ∧ b ≤ 999999) ∧ xss.flatten.Nodup
instance (xss : List (List Int)) (h : Int) : Decidable (RightP xss h) := inferInstanceAs (Decidable (_ ∧ _))
def rightB (xss : List (List Int)) (h : Int) : Bool := decide (RightP xss h)
theorem rightB_true {xss : List (List Int)} {h : Int} : rightB xss h = true ↔ RightP xss h := by simp [rightB]
theorem rightB_false {xss : List (List Int)} {h : Int} : rightB xss h = false ↔ ¬ RightP xss h := by simp [rightB]

theorem flatten_take_succ {xss : List (List Int)} {i : Nat} (h : i < xss.length) : (xss.take (i + 1)).flatten = (xss.take i).flatten ++ xss[i] := by
  rw [List.take_succ_eq_append_getElem h, List.flatten_append, List.flatten_cons, List.flatten_nil, List.append_nil]
theorem flatten_prefix {xss : List (List Int)} {i j : Nat} (h : i < xss.length) : ∃ r, xss.flatten = (xss.take i).flatten ++ xss[i].take j ++ r := by
  refine ⟨xss[i].drop j ++ (xss.drop (i + 1)).flatten, ?_⟩
  have h1 : xss = xss.take (i + 1) ++ xss.drop (i + 1) := (List.take_append_drop _ _).symm
  rw [List.append_assoc, ← List.append_assoc (xss[i].take j), List.take_append_drop]
  conv => lhs; rw [h1]
  rw [List.flatten_append, flatten_take_succ h, List.append_assoc]

theorem not_right_of_prefix {xss : List (List Int)} {h : Int} {l r : List Int} (e : xss.flatten = l ++ r) (hn : ¬ ((∀ b ∈ l, 1 ≤ b ∧ b ≤ 999999) ∧ l.Nodup)) : ¬ RightP xss h := by
  rintro ⟨_, _, _, _, _, h1, h2⟩
  rw [e] at h1 h2
  exact hn ⟨fun b hb => h1 b (List.mem_append_left _ hb), (List.nodup_append.1 h2).1⟩

/-- Where a box stands. -/
def findL : List (List Int) → Int → Option (Nat × Nat)
  | [], _ => none
  | xs :: xss, b => if b ∈ xs then some (0, xs.idxOf b) else (findL xss b).map fun p => (p.1 + 1, p.2)
theorem findL_append (l r : List (List Int)) (b : Int) (h : ∀ xs ∈ l, b ∉ xs) : findL (l ++ r) b = (findL r b).map fun p => (p.1 + l.length, p.2) := by
  induction l with
  | nil => simp
  | cons x l ih =>
    have h1 : b ∉ x := h x List.mem_cons_self
    simp only [List.cons_append, findL, if_neg h1, ih (fun xs hx => h xs (List.mem_cons_of_mem _ hx)), Option.map_map]
    congr 1
theorem findL_hit {xss : List (List Int)} {b : Int} {i : Nat} (hi : i < xss.length) (hn : ∀ xs ∈ xss.take i, b ∉ xs) (hb : b ∈ xss[i]) : findL xss b = some (i, xss[i].idxOf b) := by
  have h1 : xss = xss.take i ++ xss.drop i := (List.take_append_drop _ _).symm
  have h2 : findL xss b = (findL (xss.drop i) b).map fun p => (p.1 + (xss.take i).length, p.2) := by
    conv => lhs; rw [h1]
    exact findL_append _ _ b hn
  rw [h2, List.drop_eq_getElem_cons hi]
  simp [findL, hb]
  omega
theorem findL_miss {xss : List (List Int)} {b : Int} (hn : ∀ xs ∈ xss, b ∉ xs) : findL xss b = none := by
  have := findL_append xss [] b hn
  simpa [findL] using this
theorem findL_some {xss : List (List Int)} {b : Int} {i k : Nat} (h : findL xss b = some (i, k)) : ∃ hi : i < xss.length, ∃ hk : k < xss[i].length, xss[i][k] = b ∧ ∀ xs ∈ xss.take i, b ∉ xs := by
  induction xss generalizing i k with
  | nil => simp [findL] at h
  | cons x xss ih =>
    by_cases hb : b ∈ x
    · simp only [findL, if_pos hb, Option.some.injEq, Prod.mk.injEq] at h
      obtain ⟨rfl, rfl⟩ := h
      exact ⟨by simp, List.idxOf_lt_length_iff.2 hb, by simp, by simp⟩
    · simp only [findL, if_neg hb] at h
      cases hf : findL xss b with
      | none => simp [hf] at h
      | some p =>
        obtain ⟨i', k'⟩ := p
        simp only [hf, Option.map_some, Option.some.injEq, Prod.mk.injEq] at h
        obtain ⟨rfl, rfl⟩ := h
        obtain ⟨h1, h2, h3, h4⟩ := ih hf
        refine ⟨by simpa using h1, by simpa using h2, by simpa using h3, ?_⟩
        intro xs hx
        simp only [List.take_succ_cons, List.mem_cons] at hx
        rcases hx with rfl | hx
        · exact hb
        · exact h4 xs hx
theorem findL_none {xss : List (List Int)} {b : Int} (h : findL xss b = none) : b ∉ xss.flatten := by
  induction xss with
  | nil => simp
  | cons x xss ih =>
    by_cases hb : b ∈ x
    · simp [findL, hb] at h
    · simp only [findL, if_neg hb, Option.map_eq_none_iff] at h
      simp [hb]
      simpa using ih h
end Go.Proofs.Ytfdmndkoiheebaa
