/- Yards, in plain Lean: moves. Rules for lists of moves. -/
import Derived.Test.YtfdmndkoiheebaaYard2
import Derived.Test.YtfdmndkoiheebaaFrame2
import Derived.Laws.StructEq
namespace Go.Proofs.Ytfdmndkoiheebaa
open Go Go.RowKit

theorem shiftL_len {xss : List (List Int)} {H : Nat} {f t : Int} : (shiftL xss H f t).1.length = xss.length := by
  unfold shiftL
  split
  · rfl
  · split
    · rfl
    · split
      · rfl
      · split
        · rfl
        · simp
theorem shiftL_ok {xss : List (List Int)} {H : Nat} {f t : Int} (h : (shiftL xss H f t).2 = 0) : ∃ (a b : Nat) (ha : a < xss.length) (hb : b < xss.length) (hl : 0 < xss[a].length), f = a ∧ t = b ∧ a ≠ b ∧ xss[b].length ≠ H ∧
    (shiftL xss H f t).1 = (xss.set b (xss[b] ++ [xss[a][xss[a].length - 1]])).set a xss[a].dropLast := by
  unfold shiftL at *
  split at h
  · simp at h
  · rename_i h1
    rw [if_neg h1]
    split at h
    · simp at h
    · rename_i h2
      rw [if_neg h2]
      have ha : f.toNat < xss.length := by omega
      have hb : t.toNat < xss.length := by omega
      have ga : xss.getD f.toNat [] = xss[f.toNat] := by simp [ha]
      have gb : xss.getD t.toNat [] = xss[t.toNat] := by simp [hb]
      rw [ga] at h ⊢
      rw [gb] at h ⊢
      split at h
      · simp at h
      · rename_i h3
        rw [if_neg h3]
        split at h
        · simp at h
        · rename_i h4
          rw [if_neg h4]
          refine ⟨f.toNat, t.toNat, ha, hb, by omega, by omega, by omega, by omega, h4, ?_⟩
          rw [List.getD_eq_getElem?_getD, List.getElem?_eq_getElem (show xss[f.toNat].length - 1 < xss[f.toNat].length by omega)]
          rfl
theorem shiftL_perm {xss : List (List Int)} {H : Nat} {f t : Int} (h : (shiftL xss H f t).2 = 0) : (shiftL xss H f t).1.flatten.Perm xss.flatten := by
  obtain ⟨a, b, ha, hb, hl, _, _, hab, _, he⟩ := shiftL_ok h
  rw [he]
  have p1 := flatten_set_perm hb xss[a][xss[a].length - 1]
  have hea : (xss.set b (xss[b] ++ [xss[a][xss[a].length - 1]]))[a]'(by simpa using ha) = xss[a] := List.getElem_set_ne (Ne.symm hab) _
  have p2 := flatten_take_perm (xss := xss.set b (xss[b] ++ [xss[a][xss[a].length - 1]])) (i := a) (k := xss[a].length - 1) (by simpa using ha) (by rw [hea]; omega) (by rw [hea]; omega)
  simp only [hea] at p2
  rw [← List.dropLast_eq_take] at p2
  exact (p2.symm.trans p1).cons_inv
theorem RightP.shift {xss : List (List Int)} {H : Nat} {f t : Int} (hR : RightP xss H) (h : (shiftL xss H f t).2 = 0) : RightP (shiftL xss H f t).1 H := by
  have hp := shiftL_perm h
  obtain ⟨a, b, ha, hb, hl, _, _, hab, hn, he⟩ := shiftL_ok h
  obtain ⟨q1, q2, q3, q4, q5, q6, q7⟩ := hR
  refine ⟨q1, q2, by rw [shiftL_len]; exact q3, by rw [shiftL_len]; exact q4, fun xs hx => ?_, fun x hx => q6 x (hp.mem_iff.1 hx), hp.nodup_iff.2 q7⟩
  rw [he] at hx
  rcases List.mem_or_eq_of_mem_set hx with hx | rfl
  · rcases List.mem_or_eq_of_mem_set hx with hx | rfl
    · exact q5 xs hx
    · have := q5 _ (List.getElem_mem hb); simp; omega
  · have := q5 _ (List.getElem_mem ha); simp; omega
theorem RightP.shiftR_ok {xss : List (List Int)} {H : Nat} {f t : Int} (hR : RightP xss H) (h : (shiftL xss H f t).2 = 0) : shiftR xss H f t = ((shiftL xss H f t).1, (H : Int), 0) := by simp [shiftR, hR.b, h]
theorem RightP.shiftR_no {xss : List (List Int)} {H : Nat} {f t : Int} (hR : RightP xss H) (h : (shiftL xss H f t).2 ≠ 0) : shiftR xss H f t = ([], 0, (shiftL xss H f t).2) := by simp [shiftR, hR.b, h]
/-- Moves, one behind the other: the stacks; or the first wrong one, and its error. -/
def playL (H : Nat) : List (List Int) → Nat → List (Int × Int) → List (List Int) × Nat × Int
  | xss, _, [] => (xss, 0, 0)
  | xss, i, m :: ms => if (shiftL xss H m.1 m.2).2 = 0 then playL H (shiftL xss H m.1 m.2).1 (i + 1) ms else ([], i, (shiftL xss H m.1 m.2).2)
def playR (xss : List (List Int)) (h : Int) (ms : List (Int × Int)) : List (List Int) × Int × Nat × Int :=
  if rightB xss h = false then ([], 0, 0, 2) else if 10000 < ms.length then ([], 0, 0, 5)
  else if (playL h.toNat xss 0 ms).2.2 = 0 then ((playL h.toNat xss 0 ms).1, h, 0, 0) else ([], 0, (playL h.toNat xss 0 ms).2.1, (playL h.toNat xss 0 ms).2.2)
theorem playL_drop {H : Nat} {xss : List (List Int)} {ms : List (Int × Int)} {i : Nat} (hi : i < ms.length) : playL H xss i (ms.drop i) = if (shiftL xss H ms[i].1 ms[i].2).2 = 0 then playL H (shiftL xss H ms[i].1 ms[i].2).1 (i + 1) (ms.drop (i + 1)) else ([], i, (shiftL xss H ms[i].1 ms[i].2).2) := by
  rw [List.drop_eq_getElem_cons hi]; rfl
theorem playL_right {H : Nat} : ∀ (ms : List (Int × Int)) (xss : List (List Int)) (i : Nat), RightP xss H → (playL H xss i ms).2.2 = 0 → RightP (playL H xss i ms).1 H ∧ (playL H xss i ms).1.flatten.Perm xss.flatten := by
  intro ms
  induction ms with
  | nil => intro xss i h _; exact ⟨h, List.Perm.refl _⟩
  | cons m ms ih =>
    intro xss i h h0
    simp only [playL] at h0 ⊢
    split at h0
    · rename_i hs
      simp only [hs, if_true]
      obtain ⟨h1, h2⟩ := ih _ _ (h.shift hs) h0
      exact ⟨h1, h2.trans (shiftL_perm hs)⟩
    · rename_i hs; exact absurd h0 hs
theorem playR_fit {xss : List (List Int)} {h : Int} {ms : List (Int × Int)} : Fit (playR xss h ms).1 := by
  unfold playR
  cases hR : rightB xss h
  · exact Fit.nil
  · simp only [Bool.true_eq_false, if_false]
    split
    · exact Fit.nil
    · split
      · rename_i h0
        obtain ⟨H, rfl, _⟩ := rightB_nat hR
        rw [Int.toNat_natCast] at *
        exact (playL_right ms xss 0 (rightB_true.1 hR) h0).1.fit
      · exact Fit.nil
theorem moves_take {ms : List (Int × Int)} {i : Nat} (h : i < ms.length) : ((movesC ms).drop (i * 2)).take 2 = [.int .i64 ms[i].1, .int .i64 ms[i].2] := by
  obtain ⟨h1, h2⟩ := movesC_get h
  have hl := movesC_len ms
  rw [List.drop_eq_getElem_cons (by omega), List.drop_eq_getElem_cons (by omega)]
  rw [List.getElem?_eq_getElem (by omega)] at h1 h2
  simp only [Option.some.injEq] at h1 h2
  simp [h1, h2]
theorem moves_one {ms : List (Int × Int)} : ∀ u ∈ movesC ms, u.oneCell' = true := by
  intro u hu
  obtain ⟨m, _, hm⟩ := List.mem_flatMap.1 hu
  simp at hm
  rcases hm with rfl | rfl <;> rfl
theorem movesC_snoc (ms : List (Int × Int)) (m : Int × Int) : movesC (ms ++ [m]) = movesC ms ++ [.int .i64 m.1, .int .i64 m.2] := by simp [movesC]
theorem Row.blk_at {w : World} {k n j : Nat} {v : Value} {cs : List Value} (h : Row w k v n cs) (hj : j < cs.length) : ∀ b, vblk v = some b → b < w.heap.size := by
  obtain ⟨a, cap, rfl, _, _, h⟩ := h
  obtain ⟨p, rfl, hp⟩ := h j hj
  intro b hb
  simp [vblk] at hb
  subst hb
  have := cell_lt (hp.trans (List.getElem?_eq_getElem hj))
  rwa [add_block] at this
/-- A move of a list is read. -/
theorem R.ldM {P : Program} {ops : Array Oper} {S : Bool → Nat → Prop} {dr : Bool} {B : List Nat} {F : Env → World → Prop} {rest : List Oper} {e : Env} {w w0 : World} {d : Tmp} {ty : TypeId} {pos : String} {aft : Array Edge} {x : Operand} {t : TypeId} {c : Bool} {by_ i : Nat} {z v : Value} {ms : List (Int × Int)} (hk : Ty P t 2 by_ true z) (hr : Moves w0 v ms) (hE : Ext w0 w) (hi : i < ms.length) (hx : ev e x = elemPtr v (i * 2)) (hc : B.contains d = c) (hS : ∀ b, b < w0.heap.size → S c b)
    (h : wpR P ops S dr (kind B) F rest (upd e d (.agg #[.int .i64 ms[i].1, .int .i64 ms[i].2])) w) : wpR P ops S dr (kind B) F (⟨some d, .load t x, ty, pos, aft, none⟩ :: rest) e w :=
  R.loadE hk (by decide) (hr.ext hE) hx (moves_take hi) rfl hc (fun b hb => hS b (hr.blk_at (j := i * 2) (by rw [movesC_len]; omega) b hb)) h
theorem run_equal30 {w : World} {a b c d : Int} : (Op.equalIn 10000 30 (.agg #[.int .i64 a, .int .i64 b]) (.agg #[.int .i64 c, .int .i64 d])).run Try.prog w = .ok (decide (a = c ∧ b = d)) w := by
  rw [run_equalIn_struct w 9999 30 _ _ (by kernel_rfl) (by kernel_rfl)]
  have hf : Try.prog.fieldsOf 30 = (match Try.prog.underlying 30 with | some (.struct fs) => fs | _ => #[]) := by kernel_rfl
  rw [hf, Try.underlying30]
  have hag : ∀ w, (isAgg 3).run Try.prog w = .ok false w := fun w => t3.isAgg w
  have hsz : ∀ w, (sizeOf 3).run Try.prog w = .ok 1 w := fun w => t3.sizeOf w
  simp [Op.eqFields, part, hag, hsz, run_equalIn_int _ _ _ _ _ _ _ Try.underlying3]
  by_cases h1 : a = c <;> by_cases h2 : b = d <;> simp [h1, h2]
end Go.Proofs.Ytfdmndkoiheebaa
