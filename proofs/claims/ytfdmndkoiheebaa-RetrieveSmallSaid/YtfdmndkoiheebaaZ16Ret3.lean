import Derived.Test.YtfdmndkoiheebaaZ16J16
import Derived.Test.YtfdmndkoiheebaaZ16J15
namespace Go.Proofs.Ytfdmndkoiheebaa
def tryF (H : Nat) (ord : List Int) (rc : List (List Int) → Nat → Option (List (Int × Int × Int))) (ys : List (List Int)) (nx : Nat) (fr : Int) (i : Nat) : Option (List (Int × Int × Int)) :=
  if (i : Int) = fr ∨ (ys.getD i []).length = H then none else
    match doL ys H ord nx (topL ys fr, fr, (i : Int)) with
    | some (zs, n') => (rc zs n').map ((topL ys fr, fr, (i : Int)) :: ·)
    | none => none
def tryN (H : Nat) (ord : List Int) : Nat → List (List Int) → Nat → Nat → Option (List (Int × Int × Int))
  | 0, _, nx, _ => if nx < ord.length then none else some []
  | n + 1, ys, nx, left =>
    if nx < ord.length then
      if topL ys (whereL ys (ord.getD nx 0)) = ord.getD nx 0 then
        match doL ys H ord nx (ord.getD nx 0, whereL ys (ord.getD nx 0), -1) with
        | some (zs, n') => (tryN H ord n zs n' left).map ((ord.getD nx 0, whereL ys (ord.getD nx 0), -1) :: ·)
        | none => none
      else if left = 0 then none
      else (List.range ys.length).findSome? (tryF H ord (fun zs n' => tryN H ord n zs n' (left - 1)) ys nx (whereL ys (ord.getD nx 0)))
    else some []
def tryL (H : Nat) (ord : List Int) (ys : List (List Int)) (nx left : Nat) : Option (List (Int × Int × Int)) := tryN H ord (ord.length - nx + left) ys nx left
def tryG (H : Nat) (ord : List Int) (ys : List (List Int)) (nx left a : Nat) (b : Int) (i : Nat) : Option (List (Int × Int × Int)) :=
  if i = a ∨ (ys.getD i []).length = H then none else (tryL H ord (shiftL ys H a i).1 nx left).map ((b, (a : Int), (i : Int)) :: ·)
section
variable {ys : List (List Int)} {H : Nat} {ord : List Int} {nx a k : Nat} {ov : List Int} {b : Int} {left : Nat}
theorem tryL_end (h : ¬ nx < ord.length) : tryL H ord ys nx left = some [] := by
  unfold tryL
  cases hm : ord.length - nx + left with
  | zero => simp only [tryN]; rw [if_neg h]
  | succ n => simp only [tryN]; rw [if_neg h]
theorem tryL_leave (h : OverJ ys H ord nx a k []) : tryL H ord ys nx left = (tryL H ord (ys.set a ((ys[a]'h.la).take k)) (nx + 1) left).map ((ord[nx]'h.ln, (a : Int), -1) :: ·) := by
  obtain ⟨h1, h2, _, _⟩ := h.leave
  have hn := h.ln
  unfold tryL
  obtain ⟨n, hm⟩ : ∃ n, ord.length - nx + left = n + 1 := ⟨ord.length - nx + left - 1, by omega⟩
  rw [hm]
  simp only [tryN]
  rw [if_pos hn, getD_at hn, whereL_some h.find, if_pos h1, h2]
  rw [show ord.length - (nx + 1) + left = n by omega]
theorem tryL_zero (h : OverJ ys H ord nx a k (b :: ov)) : tryL H ord ys nx 0 = none := by
  have hn := h.ln
  unfold tryL
  obtain ⟨n, hm⟩ : ∃ n, ord.length - nx + 0 = n + 1 := ⟨ord.length - nx + 0 - 1, by omega⟩
  rw [hm]
  simp only [tryN]
  rw [if_pos hn, getD_at hn, whereL_some h.find, if_neg h.ne, if_pos trivial]
theorem tryL_reloc (h : OverJ ys H ord nx a k (b :: ov)) : tryL H ord ys nx (left + 1) = (List.range ys.length).findSome? (tryG H ord ys nx left a b) := by
  have hn := h.ln
  unfold tryL
  obtain ⟨n, hm⟩ : ∃ n, ord.length - nx + (left + 1) = n + 1 := ⟨ord.length - nx + left, by omega⟩
  rw [hm]
  simp only [tryN]
  rw [if_pos hn, getD_at hn, whereL_some h.find, if_neg h.ne, if_neg (by omega), Nat.add_sub_cancel]
  obtain rfl : n = ord.length - nx + left := by omega
  have e : ∀ i ∈ List.range ys.length, tryF H ord (fun zs n' => tryN H ord (ord.length - nx + left) zs n' left) ys nx (a : Nat) i = tryG H ord ys nx left a b i := by
    intro i hi
    have hi' : i < ys.length := by simpa using hi
    have g : ys.getD i [] = ys[i] := by simp [hi']
    unfold tryF tryG
    by_cases hc : i = a ∨ ys[i].length = H
    · rw [if_pos (by rw [g]; omega), if_pos (by rw [g]; exact hc)]
    · rw [if_neg (by rw [g]; omega), if_neg (by rw [g]; exact hc)]
      obtain ⟨_, _, hd⟩ := h.next hi' (by omega) (by omega)
      rw [h.top, hd]
      rfl
  have : ∀ (l : List Nat) (f g : Nat → Option (List (Int × Int × Int))), (∀ i ∈ l, f i = g i) → l.findSome? f = l.findSome? g := by
    intro l f g
    induction l with
    | nil => intro _; rfl
    | cons x l ih => intro hh; simp only [List.findSome?_cons]; rw [hh x List.mem_cons_self, ih (fun i hi => hh i (List.mem_cons_of_mem _ hi))]
  exact this _ _ _ e
end
theorem find_hit {α : Type} {f : Nat → Option α} {m i : Nat} {x : α} (h0 : (List.range i).findSome? f = none) (hi : i < m) (h : f i = some x) : (List.range m).findSome? f = some x := by
  obtain ⟨r, rfl⟩ : ∃ r, m = i + (r + 1) := ⟨m - i - 1, by omega⟩
  rw [List.range_add, List.findSome?_append, h0, List.range_succ_eq_map]
  simp [h]
theorem find_miss {α : Type} {f : Nat → Option α} {i : Nat} (h0 : (List.range i).findSome? f = none) (h : f i = none) : (List.range (i + 1)).findSome? f = none := by
  rw [List.range_succ, List.findSome?_append, h0]; simp [h]
inductive Str (H : Nat) (ord : List Int) : List (List Int) → Nat → List (Int × Int × Int) → Prop where
  | done {ys : List (List Int)} {nx : Nat} (h : ¬ nx < ord.length) : Str H ord ys nx []
  | leave {ys : List (List Int)} {nx a k : Nat} {ss : List (Int × Int × Int)} (h : OverJ ys H ord nx a k []) (hs : Str H ord (ys.set a ((ys[a]'h.la).take k)) (nx + 1) ss) : Str H ord ys nx ((ord[nx]'h.ln, (a : Int), -1) :: ss)
  | move {ys : List (List Int)} {nx a k j : Nat} {b : Int} {ov : List Int} {ss : List (Int × Int × Int)} (h : OverJ ys H ord nx a k (b :: ov)) (hj : j < ys.length) (hja : j ≠ a) (hjH : ys[j].length ≠ H) (hs : Str H ord (shiftL ys H a j).1 nx ss) : Str H ord ys nx ((b, (a : Int), (j : Int)) :: ss)
def cnt : List (Int × Int × Int) → Nat
  | [] => 0
  | s :: ss => (if 0 ≤ s.2.2 then 1 else 0) + cnt ss
theorem cnt_leave {b a : Int} {ss : List (Int × Int × Int)} : cnt ((b, a, -1) :: ss) = cnt ss := by simp [cnt]
theorem cnt_move {b a : Int} {j : Nat} {ss : List (Int × Int × Int)} : cnt ((b, a, (j : Int)) :: ss) = 1 + cnt ss := by simp [cnt]
section
variable {ys : List (List Int)} {H : Nat} {ord : List Int} {nx a k : Nat} {ov : List Int} {b : Int} {left : Nat} {ss : List (Int × Int × Int)}
theorem try_str : ∀ (n : Nat) (ys : List (List Int)) (nx left : Nat) (ss : List (Int × Int × Int)), n = ord.length - nx + left → GoodJ ys H ord nx → tryL H ord ys nx left = some ss → Str H ord ys nx ss ∧ cnt ss ≤ left := by
  intro n
  induction n with
  | zero =>
    intro ys nx left ss hn hG h
    have h1 : ¬ nx < ord.length := by omega
    rw [tryL_end h1] at h
    obtain rfl := Option.some.inj h
    exact ⟨.done h1, Nat.zero_le _⟩
  | succ n ih =>
    intro ys nx left ss hn hG h
    by_cases h1 : nx < ord.length
    · obtain ⟨a, k, ov, hO, _⟩ := OverJ.start hG h1
      cases ov with
      | nil =>
        rw [tryL_leave hO] at h
        obtain ⟨tt, h2, rfl⟩ := Option.map_eq_some_iff.1 h
        obtain ⟨q1, q2⟩ := ih _ _ _ _ (by omega) hO.leave.2.2.1 h2
        exact ⟨.leave hO q1, by rw [cnt_leave]; exact q2⟩
      | cons b ov =>
        cases left with
        | zero => rw [tryL_zero hO] at h; cases h
        | succ left =>
          rw [tryL_reloc hO] at h
          obtain ⟨i, hi, h2⟩ := List.exists_of_findSome?_eq_some h
          have hi' : i < ys.length := by simpa using hi
          have g : ys.getD i [] = ys[i] := by simp [hi']
          unfold tryG at h2
          rw [g] at h2
          split at h2
          · cases h2
          · rename_i hc
            obtain ⟨tt, h3, rfl⟩ := Option.map_eq_some_iff.1 h2
            obtain ⟨hO1, _, _⟩ := hO.next hi' (by omega) (by omega)
            obtain ⟨q1, q2⟩ := ih _ _ _ _ (by omega) hO1.good h3
            exact ⟨.move hO hi' (by omega) (by omega) q1, by rw [cnt_move]; omega⟩
    · rw [tryL_end h1] at h
      obtain rfl := Option.some.inj h
      exact ⟨.done h1, Nat.zero_le _⟩
theorem OverJ.uniq {a' k' : Nat} {ov' : List Int} (h : OverJ ys H ord nx a k ov) (h' : OverJ ys H ord nx a' k' ov') : a = a' ∧ k = k' ∧ ov = ov' := by
  have h1 := h.find.symm.trans h'.find
  simp at h1
  obtain ⟨rfl, rfl⟩ := h1
  exact ⟨rfl, rfl, h.over.symm.trans h'.over⟩
theorem Str.try (h : Str H ord ys nx ss) : ∀ left, cnt ss ≤ left → (tryL H ord ys nx left).isSome := by
  induction h with
  | done h => intro left _; rw [tryL_end h]; rfl
  | leave h hs ih =>
    intro left hl
    rw [cnt_leave] at hl
    rw [tryL_leave h]
    have := ih left hl
    simpa using this
  | @move ys nx a k j b ov ss h hj hja hjH hs ih =>
    intro left hl
    rw [cnt_move] at hl
    obtain ⟨m, rfl⟩ : ∃ m, left = m + 1 := ⟨left - 1, by omega⟩
    rw [tryL_reloc h]
    have h1 := ih m (by omega)
    rw [List.findSome?_isSome_iff]
    refine ⟨j, by simpa using hj, ?_⟩
    have g : ys.getD j [] = ys[j] := by simp [hj]
    unfold tryG
    rw [g, if_neg (by omega)]
    simpa using h1
theorem Str.over (h : Str H ord ys nx ss) : ∀ a k ov, OverJ ys H ord nx a k ov → ov.length ≤ cnt ss := by
  induction h with
  | done h => intro a k ov hO; exact absurd hO.ln h
  | leave h hs ih =>
    intro a k ov hO
    obtain ⟨_, _, rfl⟩ := h.uniq hO
    exact Nat.zero_le _
  | move h hj hja hjH hs ih =>
    intro a k ov hO
    obtain ⟨rfl, rfl, rfl⟩ := h.uniq hO
    have := ih _ _ _ (h.next hj hja hjH).1
    rw [cnt_move, List.length_cons]; omega
end
def tri (m : Nat) : Nat := m * (m - 1) / 2
theorem tri_succ (m : Nat) : tri (m + 1) = m + tri m := by
  unfold tri
  cases m with
  | zero => rfl
  | succ m =>
    have e : (m + 1 + 1) * (m + 1 + 1 - 1) = 2 * (m + 1) + (m + 1) * (m + 1 - 1) := by
      simp only [Nat.add_sub_cancel]
      rw [Nat.add_mul (m + 1) 1, Nat.mul_add (m + 1) m 1]; omega
    rw [e, Nat.mul_add_div (by omega)]
section
variable {ys : List (List Int)} {H : Nat} {ord : List Int} {nx a k : Nat} {ov : List Int} {ss : List (Int × Int × Int)}
theorem OverJ.few (h : OverJ ys H ord nx a k ov) : ov.length + 1 ≤ ys.flatten.length := by
  have h1 := h.len
  have h2 : (ys[a]'h.la).length ≤ ys.flatten.length := (List.sublist_flatten_of_mem (List.getElem_mem h.la)).length_le
  omega
theorem Str.most (h : Str H ord ys nx ss) : (∀ a k ov, OverJ ys H ord nx a k ov → cnt ss ≤ ov.length + tri (ys.flatten.length - 1)) ∧ (¬ nx < ord.length → cnt ss = 0) := by
  induction h with
  | done h => exact ⟨fun a k ov hO => absurd hO.ln h, fun _ => rfl⟩
  | @leave ys nx a k ss h hs ih =>
    refine ⟨fun a' k' ov hO => ?_, fun hn => absurd h.ln hn⟩
    obtain ⟨rfl, rfl, rfl⟩ := h.uniq hO
    rw [cnt_leave]
    have hl := h.len
    have hp := (flatten_take_perm h.la h.lk (by simp at hl; omega)).length_eq
    simp only [List.length_cons] at hp
    by_cases hn : nx + 1 < ord.length
    · obtain ⟨a2, k2, ov2, hO2, _⟩ := OverJ.start h.leave.2.2.1 hn
      have h1 := ih.1 _ _ _ hO2
      have h2 := hO2.few
      obtain ⟨m, hm⟩ : ∃ m, (ys.set a (ys[a]'h.la |>.take k)).flatten.length = m + 1 := ⟨(ys.set a (ys[a]'h.la |>.take k)).flatten.length - 1, by omega⟩
      rw [hm] at h1 h2 hp
      rw [hp]
      simp only [Nat.add_sub_cancel] at h1 ⊢
      rw [tri_succ]; omega
    · rw [ih.2 hn]; exact Nat.zero_le _
  | @move ys nx a k j b ov ss h hj hja hjH hs ih =>
    refine ⟨fun a' k' ov' hO => ?_, fun hn => absurd h.ln hn⟩
    obtain ⟨rfl, rfl, rfl⟩ := h.uniq hO
    obtain ⟨hO1, hsh, _⟩ := h.next hj hja hjH
    have h1 := ih.1 _ _ _ hO1
    rw [(shiftL_perm hsh).length_eq] at h1
    rw [cnt_move, List.length_cons]; omega
theorem Str.tri (h : Str H ord ys nx ss) (hG : GoodJ ys H ord nx) : cnt ss ≤ Ytfdmndkoiheebaa.tri ys.flatten.length := by
  by_cases hn : nx < ord.length
  · obtain ⟨a, k, ov, hO, _⟩ := OverJ.start hG hn
    have h1 := h.most.1 _ _ _ hO
    have h2 := hO.few
    obtain ⟨m, hm⟩ : ∃ m, ys.flatten.length = m + 1 := ⟨ys.flatten.length - 1, by omega⟩
    rw [hm] at h1 h2 ⊢
    simp only [Nat.add_sub_cancel] at h1
    rw [tri_succ]; omega
  · rw [h.most.2 hn]; exact Nat.zero_le _
end
end Go.Proofs.Ytfdmndkoiheebaa

namespace Go.Proofs.Ytfdmndkoiheebaa
def lowF (ord : List Int) : Nat → List Int → Nat
  | L, [] => L
  | L, b :: bs => lowF ord (min L (rankL ord b)) bs
section
variable {ys : List (List Int)} {H : Nat} {ord : List Int} {nx a k : Nat} {ov : List Int} {ss : List (Int × Int × Int)}
theorem wayR_snoc (x : Int) : ∀ (s : List Int) (L : Nat), wayR ord L (s ++ [x]) = wayR ord L s + if lowF ord L s < rankL ord x then 1 else 0
  | [], L => by
    have e : lowF ord L [] = L := rfl
    simp only [List.nil_append, wayR]
    rw [e]
    by_cases h : L < rankL ord x
    · rw [if_pos h]
    · rw [if_neg h]
  | b :: bs, L => by
    have e : lowF ord L (b :: bs) = lowF ord (min L (rankL ord b)) bs := rfl
    rw [e]
    simp only [List.cons_append, wayR]
    by_cases h : L < rankL ord b
    · have e2 : min L (rankL ord b) = L := by omega
      rw [if_pos h, if_pos h, wayR_snoc x bs L, e2]; omega
    · have e2 : min L (rankL ord b) = rankL ord b := by omega
      rw [if_neg h, if_neg h, wayR_snoc x bs (rankL ord b), e2]
theorem foldl_ge {r : Nat} : ∀ (s : List Int) (L : Nat), (∀ x ∈ s, r ≤ rankL ord x) → r ≤ L → r ≤ lowF ord L s
  | [], _, _, h => h
  | b :: bs, L, hs, h => by
    have e : lowF ord L (b :: bs) = lowF ord (min L (rankL ord b)) bs := rfl
    have := hs b List.mem_cons_self
    rw [e]
    exact foldl_ge bs _ (fun x hx => hs x (List.mem_cons_of_mem _ hx)) (by omega)
theorem wayR_zero : ∀ (s : List Int), (∀ x ∈ s, rankL ord x = ord.length) → wayR ord ord.length s = 0
  | [], _ => rfl
  | b :: bs, h => by
    have hb := h b List.mem_cons_self
    simp only [wayR]
    rw [if_neg (by omega), hb]
    exact wayR_zero bs (fun x hx => h x (List.mem_cons_of_mem _ hx))
theorem wayL_zero : ∀ (ys : List (List Int)), (∀ x ∈ ys.flatten, rankL ord x = ord.length) → wayL ord ys = 0
  | [], _ => rfl
  | s :: ys, h => by
    have h1 := wayR_zero s (fun x hx => h x (by simp [hx]))
    have h2 := wayL_zero ys (fun x hx => h x (by rw [List.flatten_cons]; exact List.mem_append_right _ hx))
    simp only [wayL, List.map_cons, List.sum_cons] at *
    omega
theorem wayL_set {s : List Int} : ∀ (ys : List (List Int)) (a : Nat) (ha : a < ys.length), wayL ord (ys.set a s) + wayR ord ord.length ys[a] = wayL ord ys + wayR ord ord.length s
  | x :: ys, 0, _ => by simp only [List.set_cons_zero, wayL, List.map_cons, List.sum_cons, List.getElem_cons_zero]; omega
  | x :: ys, a + 1, ha => by
    have := wayL_set (s := s) ys a (by simpa using ha)
    simp only [List.set_cons_succ, wayL, List.map_cons, List.sum_cons, List.getElem_cons_succ] at *
    omega
theorem rank_ge {x : Int} (hx : x ∉ ord.take nx) : nx ≤ rankL ord x ∨ ord.length ≤ rankL ord x := by
  by_cases hm : x ∈ ord
  · left
    rcases Nat.lt_or_ge (rankL ord x) nx with h | h
    · exfalso
      apply hx
      have e : rankL ord x = ord.idxOf x := by simp [rankL, hm]
      have hi := List.idxOf_lt_length_iff.2 hm
      rw [List.mem_iff_getElem]
      refine ⟨ord.idxOf x, by rw [List.length_take]; omega, ?_⟩
      rw [List.getElem_take, List.getElem_idxOf]
    · exact h
  · right; simp [rankL, hm]
theorem rank_at (hn : ord.Nodup) (h : nx < ord.length) : rankL ord ord[nx] = nx := by
  have : ord[nx] ∈ ord := List.getElem_mem h
  simp only [rankL, this, if_true]
  exact List.Nodup.idxOf_getElem hn nx h
def Gone (ys : List (List Int)) (ord : List Int) (nx : Nat) : Prop := ∀ b ∈ ord.take nx, b ∉ ys.flatten
theorem Gone.start : Gone ys ord 0 := fun b hb => by simp at hb
theorem Gone.leave (hR : RightP ys (H : Int)) (hg : Gone ys ord nx) (hn : nx < ord.length) (ha : a < ys.length) (hk : k < ys[a].length) (hu : k + 1 = ys[a].length) (hb : ys[a][k] = ord[nx]) : Gone (ys.set a (ys[a].take k)) ord (nx + 1) := by
  have hp := flatten_take_perm ha hk hu
  intro b h
  rw [List.take_succ_eq_append_getElem hn] at h
  rcases List.mem_append.1 h with h | h
  · exact fun hm => hg b h (hp.mem_iff.2 (List.mem_cons_of_mem _ hm))
  · simp at h; subst h
    rw [← hb]; exact (hR.taken ha hk hu).2
theorem wayL_leave (hn : ord.Nodup) (hg : Gone ys ord nx) (hnx : nx < ord.length) (ha : a < ys.length) (hk : k < ys[a].length) (hu : k + 1 = ys[a].length) (hb : ys[a][k] = ord[nx]) : wayL ord (ys.set a (ys[a].take k)) = wayL ord ys := by
  have h1 := wayL_set (ord := ord) (s := ys[a].take k) ys a ha
  have e : ys[a] = ys[a].take k ++ [ord[nx]] := by
    rw [← hb, List.take_append_getElem, List.take_of_length_le (by omega)]
  have h2 := wayR_snoc (ord := ord) ord[nx] (ys[a].take k) ord.length
  rw [← e, rank_at hn hnx] at h2
  have h3 : nx ≤ lowF ord ord.length (ys[a].take k) := foldl_ge _ _ (fun x hx => by
    have hm : x ∈ ys.flatten := List.mem_flatten.2 ⟨_, List.getElem_mem ha, List.mem_of_mem_take hx⟩
    rcases rank_ge (fun hm2 => hg x hm2 hm) with h | h <;> omega) (by omega)
  rw [if_neg (by omega)] at h2
  omega
theorem wayL_move {c : Nat} {b : Int} {s : List Int} (ha : a < ys.length) (hc : c < ys.length) (hca : c ≠ a) (hs : ys[a] = s ++ [b]) : wayL ord ys ≤ wayL ord ((ys.set c (ys[c] ++ [b])).set a s) + 1 := by
  have h1 := wayL_set (ord := ord) (s := ys[c] ++ [b]) ys c hc
  have h2 := wayL_set (ord := ord) (s := s) (ys.set c (ys[c] ++ [b])) a (by simpa using ha)
  rw [List.getElem_set_ne hca, hs] at h2
  have h3 := wayR_snoc (ord := ord) b s ord.length
  have h4 := wayR_snoc (ord := ord) b ys[c] ord.length
  have h5 : (if lowF ord ord.length s < rankL ord b then 1 else 0) ≤ 1 := by split <;> omega
  omega
theorem doL_way {b f t : Int} {zs : List (List Int)} {n' : Nat} (hR : RightP ys (H : Int)) (hn : ord.Nodup) (hg : Gone ys ord nx) (h : doL ys H ord nx (b, f, t) = some (zs, n')) :
    Gone zs ord n' ∧ ((t = -1 ∧ wayL ord zs = wayL ord ys) ∨ (0 ≤ t ∧ wayL ord ys ≤ wayL ord zs + 1)) := by
  have hb : ¬ (b < 1 ∨ topL ys f ≠ b) := fun hc => by simp only [doL] at h; rw [if_pos hc] at h; cases h
  obtain ⟨a, ha, hl, rfl, hlast⟩ := topL_pos (show topL ys f = b by omega) (by omega)
  by_cases ht : t = -1
  · subst ht
    rw [doL_take hR ha hl _ hlast] at h
    split at h
    · rename_i hq
      obtain ⟨rfl, rfl⟩ := Prod.mk.inj (Option.some.inj h)
      have hnx : nx < ord.length := by
        rcases Nat.lt_or_ge nx ord.length with h1 | h1
        · exact h1
        · have := hR.pos ha (show ys[a].length - 1 < ys[a].length by omega)
          rw [hlast, hq] at this; simp [h1] at this
      have e1 : ys[a][ys[a].length - 1] = ord[nx] := by rw [hlast, hq, getD_at hnx]
      rw [List.dropLast_eq_take]
      exact ⟨hg.leave hR hnx ha (by omega) (by omega) e1, .inl ⟨rfl, wayL_leave hn hg hnx ha (by omega) (by omega) e1⟩⟩
    · cases h
  · rw [← hlast, doL_shift2 hR ha hl ht] at h
    split at h
    · rename_i hs
      obtain ⟨rfl, rfl⟩ := Prod.mk.inj (Option.some.inj h)
      have hp := shiftL_perm hs
      obtain ⟨a', c, ha', hc, hl', e1, rfl, hab, hnn, he⟩ := shiftL_ok hs
      obtain rfl : a = a' := by omega
      refine ⟨fun x hx hm => hg x hx (hp.mem_iff.1 hm), .inr ⟨by omega, ?_⟩⟩
      rw [he]
      refine wayL_move ha hc (by omega) ?_
      rw [← List.getLast_eq_getElem (List.ne_nil_of_length_pos hl)]
      exact (List.dropLast_concat_getLast _).symm
    · cases h
theorem Str.way (h : Str H ord ys nx ss) : GoodJ ys H ord nx → Gone ys ord nx → wayL ord ys ≤ cnt ss := by
  induction h with
  | @done ys nx h =>
    intro hG hg
    rw [wayL_zero ys (fun x hx => ?_)]
    · exact Nat.zero_le _
    · have h1 : x ∉ ord.take nx := fun hm => hg x hm hx
      rw [List.take_of_length_le (by omega)] at h1
      simp [rankL, h1]
  | @leave ys nx a k ss h hs ih =>
    intro hG hg
    obtain ⟨_, hd, hG1, _⟩ := h.leave
    obtain ⟨q1, q2⟩ := doL_way hG.right hG.nodup hg hd
    have := ih hG1 q1
    rw [cnt_leave]
    rcases q2 with ⟨_, q2⟩ | ⟨q2, _⟩
    · omega
    · omega
  | @move ys nx a k j b ov ss h hj hja hjH hs ih =>
    intro hG hg
    obtain ⟨hO1, _, hd⟩ := h.next hj hja hjH
    obtain ⟨q1, q2⟩ := doL_way hG.right hG.nodup hg hd
    have := ih hO1.good q1
    rw [cnt_move]
    rcases q2 with ⟨q2, _⟩ | ⟨_, q2⟩
    · omega
    · omega
end
def leastS (H : Nat) (ord : List Int) (xss : List (List Int)) : Option (List (Int × Int × Int)) := (List.range 16).findSome? fun m => tryL H ord xss 0 m
def leastR (xss : List (List Int)) (h : Int) (ord : List Int) : List (Int × Int × Int) × Int :=
  if beginB xss h ord then
    if 6 < xss.flatten.length ∨ 4 < xss.length then ([], 5) else
      match leastS h.toNat ord xss with
      | some ss => (ss, 0)
      | none => ([], 4)
  else ([], 2)
section
variable {xss : List (List Int)} {H : Nat} {ord : List Int}
theorem try_low {m : Nat} (hG : GoodJ xss H ord 0) (hm : m < wayL ord xss) : tryL H ord xss 0 m = none := by
  rcases h : tryL H ord xss 0 m with _ | ss
  · rfl
  · obtain ⟨h1, h2⟩ := try_str _ _ _ _ _ rfl hG h
    have := h1.way hG Gone.start
    omega
theorem low_none {m : Nat} (hG : GoodJ xss H ord 0) (hm : m ≤ wayL ord xss) : (List.range m).findSome? (fun m => tryL H ord xss 0 m) = none := by
  rw [List.findSome?_eq_none_iff]
  intro i hi
  exact try_low hG (by simp at hi; omega)
theorem least_full {m : Nat} (hG : GoodJ xss H ord 0) (hm : tri xss.flatten.length ≤ m) (h : tryL H ord xss 0 m = none) : leastS H ord xss = none := by
  unfold leastS
  rw [List.findSome?_eq_none_iff]
  intro i _
  rcases h2 : tryL H ord xss 0 i with _ | ss
  · rfl
  · obtain ⟨h1, _⟩ := try_str _ _ _ _ _ rfl hG h2
    have h3 := h1.try m (Nat.le_trans (h1.tri hG) hm)
    rw [h] at h3
    cases h3
end
end Go.Proofs.Ytfdmndkoiheebaa
