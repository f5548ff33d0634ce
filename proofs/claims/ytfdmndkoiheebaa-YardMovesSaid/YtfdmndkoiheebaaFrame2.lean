/- The rows' frame, more arguments: bytes, lists of bytes, of integers, of moves. -/
import Derived.Test.YtfdmndkoiheebaaFrame
import Derived.Test.YtfdmndkoiheebaaE1
import Derived.ChangeSlices
import Derived.Deep.SlicePairs
namespace Go.Proofs.Ytfdmndkoiheebaa
open Go Go.RowKit Go.ChangeShapes Go.WideShapes Go.ChangeAt Go.Joins Go.Deep

/-- Lists of moves. -/
def movesC (ms : List (Int × Int)) : List Value := ms.flatMap fun m => [.int .i64 m.1, .int .i64 m.2]
abbrev Moves (w : World) (v : Value) (ms : List (Int × Int)) : Prop := Row w 2 v ms.length (movesC ms)
theorem movesC_len (ms : List (Int × Int)) : (movesC ms).length = ms.length * 2 := by
  induction ms with
  | nil => rfl
  | cons m ms ih =>
    have e : movesC (m :: ms) = .int .i64 m.1 :: .int .i64 m.2 :: movesC ms := rfl
    rw [e, List.length_cons, List.length_cons, ih, List.length_cons]; omega
theorem movesC_get {ms : List (Int × Int)} {i : Nat} (h : i < ms.length) : (movesC ms)[i * 2]? = some (.int .i64 ms[i].1) ∧ (movesC ms)[i * 2 + 1]? = some (.int .i64 ms[i].2) := by
  induction ms generalizing i with
  | nil => simp at h
  | cons m ms ih =>
    cases i with
    | zero => simp [movesC]
    | succ i =>
      have := ih (i := i) (by simpa using h)
      have e1 : (i + 1) * 2 = i * 2 + 2 := by omega
      have e2 : i * 2 + 2 + 1 = i * 2 + 1 + 2 := by omega
      simp only [movesC, List.flatMap_cons, e1, e2, List.getElem?_cons_succ, List.cons_append, List.nil_append, List.getElem_cons_succ] at this ⊢
      exact this

section
variable {H : Type} {enc : TypeId × Value → H}
set_option maxRecDepth 100000 in
theorem open_u8 {W : World} {b0 : Nat} {v : Value} {d : DataW H} {p : List MemPlace} (hv : Value.okWide Try.prog W .any b0 5 v) (h : DataW.Trod enc Try.prog W 0 (fun _ => true) true 5 v d p) :
    ∃ k : Nat, v = .int .u8 (k : Int) ∧ k < 256 := by
  obtain ⟨k, rfl, rfl, rfl, wk⟩ := open_int Try.underlying5 hv h
  have hk : 0 ≤ k ∧ k ≤ 255 := by simpa [Lit.wf, IntKind.min, IntKind.max, IntKind.signed, IntKind.bits] using wk
  exact ⟨k.toNat, by rw [show ((k.toNat : Nat) : Int) = k by omega], by omega⟩
set_option maxRecDepth 100000 in
theorem open_u8s {W : World} {b0 : Nat} {v : Value} {d : DataW H} {p : List MemPlace} (hv : Value.okWide Try.prog W .any b0 33 v) (h : DataW.Trod enc Try.prog W 0 (fun _ => true) true 33 v d p) :
    ∃ ls : List Nat, U8s W v ls ∧ ls.length ≤ 9223372036854775807 ∧ ∀ x ∈ ls, x < 256 := by
  obtain ⟨a0, len0, cap0, rfl⟩ := okWide_slice Try.underlying33 hv
  obtain ⟨fuel, hf⟩ := h
  rcases open_ints Try.underlying33 Try.underlying5 (by kernel_rfl) hf with ⟨h1, _⟩ | ⟨a, len, cap, zs, h1, _, hl, hm, hz, _, hc, hw⟩
  · simp [Value.cells] at h1
    obtain ⟨rfl, rfl, rfl⟩ := h1
    exact ⟨[], Row.nil _ _, by simp, by simp⟩
  · simp [Value.cells] at h1
    obtain ⟨rfl, rfl, rfl⟩ := h1
    rw [maxLen_eq] at hm
    simp only [if_true] at hz
    have hwf : ∀ n ∈ zs, 0 ≤ n ∧ n ≤ 255 := fun n hn => by have := hw n hn; simpa [Lit.wf, IntKind.min, IntKind.max, IntKind.signed, IntKind.bits] using this
    have hlen : ((zs.take len0).map Int.toNat).length = len0 := by simp; omega
    refine ⟨(zs.take len0).map Int.toNat, ⟨some a, cap0, by rw [hlen], by rw [hlen]; exact hl, by simp, fun j hj => ⟨a, rfl, ?_⟩⟩, by rw [hlen]; omega, fun x hx => ?_⟩
    · simp only [u8s, List.length_map] at hj
      rw [List.length_take] at hj
      rw [hc j (by omega)]
      have hj2 : j < zs.length := by omega
      have h3 := hwf zs[j] (List.getElem_mem hj2)
      have hj3 : j < len0 := by omega
      simp [hj2, hj3]
      omega
    · obtain ⟨n, hn, rfl⟩ := List.mem_map.1 hx
      have := hwf n (List.mem_of_mem_take hn)
      omega
set_option maxRecDepth 100000 in
theorem open_intsl {W : World} {b0 : Nat} {v : Value} {d : DataW H} {p : List MemPlace} (hv : Value.okWide Try.prog W .any b0 35 v) (h : DataW.Trod enc Try.prog W 0 (fun _ => true) true 35 v d p) :
    ∃ xs : List Int, Ints W v xs ∧ xs.length ≤ 9223372036854775807 ∧ ∀ n ∈ xs, -9223372036854775808 ≤ n ∧ n ≤ 9223372036854775807 := by
  obtain ⟨a0, len0, cap0, rfl⟩ := okWide_slice Try.underlying35 hv
  obtain ⟨fuel, hf⟩ := h
  rcases open_ints Try.underlying35 Try.underlying3 (by kernel_rfl) hf with ⟨h1, _⟩ | ⟨a, len, cap, zs, h1, _, hl, hm, hz, _, hc, hw⟩
  · simp [Value.cells] at h1
    obtain ⟨rfl, rfl, rfl⟩ := h1
    exact ⟨[], Row.nil _ _, by simp, by simp⟩
  · simp [Value.cells] at h1
    obtain ⟨rfl, rfl, rfl⟩ := h1
    rw [maxLen_eq] at hm
    simp only [if_true] at hz
    have hlen : (zs.take len0).length = len0 := by simp; omega
    refine ⟨zs.take len0, ⟨some a, cap0, by rw [hlen], by rw [hlen]; exact hl, by simp, fun j hj => ⟨a, rfl, ?_⟩⟩, by rw [hlen]; omega, fun x hx => ?_⟩
    · simp only [ints, List.length_map] at hj
      rw [List.length_take] at hj
      rw [hc j (by omega)]
      have hj2 : j < zs.length := by omega
      have hj3 : j < len0 := by omega
      simp [hj2, hj3]
    · have := hw x (List.mem_of_mem_take hx)
      simpa [Lit.wf, IntKind.min, IntKind.max, IntKind.signed, IntKind.bits] using this
set_option maxRecDepth 100000 in
theorem open_moves {W : World} {b0 : Nat} {v : Value} {d : DataW H} {p : List MemPlace} (hv : Value.okWide Try.prog W .any b0 48 v) (h : DataW.Trod enc Try.prog W 0 (fun _ => true) true 48 v d p) :
    ∃ ms : List (Int × Int), Moves W v ms ∧ ms.length ≤ 9223372036854775807 ∧ ∀ m ∈ ms, (-9223372036854775808 ≤ m.1 ∧ m.1 ≤ 9223372036854775807) ∧ (-9223372036854775808 ≤ m.2 ∧ m.2 ≤ 9223372036854775807) := by
  obtain ⟨a0, len0, cap0, rfl⟩ := okWide_slice Try.underlying48 hv
  obtain ⟨fuel, hf⟩ := h
  rcases open_slice_pairs Try.underlying48 Try.underlying30 (by kernel_rfl) (by kernel_rfl) (by kernel_rfl) (by kernel_rfl) (by kernel_rfl) hf with ⟨h1, _⟩ | ⟨a, len, cap, m, n, V0, V1, D0, D1, P0, P1, h1, _, hl, hm, hmm, _, hc⟩
  · simp [Value.cells] at h1
    obtain ⟨rfl, rfl, rfl⟩ := h1
    exact ⟨[], Row.nil _ _, by simp, by simp⟩
  · simp [Value.cells] at h1
    obtain ⟨rfl, rfl, rfl⟩ := h1
    rw [maxLen_eq] at hm
    simp only [if_true] at hmm
    subst hmm
    have hq : ∀ i, i < m → ∃ x y : Int, V0 i = .int .i64 x ∧ V1 i = .int .i64 y ∧ (-9223372036854775808 ≤ x ∧ x ≤ 9223372036854775807) ∧ (-9223372036854775808 ≤ y ∧ y ≤ 9223372036854775807) := fun i hi => by
      obtain ⟨_, _, t0, t1⟩ := hc i hi
      obtain ⟨x, e0, _, w0⟩ := DataW.trod_int Try.underlying3 t0
      obtain ⟨y, e1, _, w1⟩ := DataW.trod_int Try.underlying3 t1
      simp at e0 e1
      exact ⟨x, y, e0, e1, by simpa [Lit.wf, IntKind.min, IntKind.max, IntKind.signed, IntKind.bits] using w0, by simpa [Lit.wf, IntKind.min, IntKind.max, IntKind.signed, IntKind.bits] using w1⟩
    have num : ∀ i, i < m → V0 i = .int .i64 (match V0 i with | .int _ x => x | _ => 0) ∧ V1 i = .int .i64 (match V1 i with | .int _ x => x | _ => 0) := fun i hi => by
      obtain ⟨x, y, e0, e1, _⟩ := hq i hi
      simp [e0, e1]
    refine ⟨(List.range len0).map fun i => ((match V0 i with | .int _ x => x | _ => 0), (match V1 i with | .int _ x => x | _ => 0)), ⟨some a, m, by simp, by simpa using hl, by rw [movesC_len], fun j hj => ⟨a, rfl, ?_⟩⟩, by simp; omega, fun x hx => ?_⟩
    · rw [movesC_len, List.length_map, List.length_range] at hj
      have hi : j / 2 < len0 := by omega
      obtain ⟨g0, g1⟩ := movesC_get (ms := (List.range len0).map fun i => ((match V0 i with | .int _ x => x | _ => 0), (match V1 i with | .int _ x => x | _ => 0))) (i := j / 2) (by simpa using hi)
      obtain ⟨c0, c1, _⟩ := hc (j / 2) (by omega)
      obtain ⟨n0, n1⟩ := num (j / 2) (by omega)
      rcases (show j = j / 2 * 2 ∨ j = j / 2 * 2 + 1 by omega) with e | e
      · rw [e, g0, c0, n0]; simp
      · rw [e, g1, c1, n1]; simp
    · obtain ⟨i, hi, rfl⟩ := List.mem_map.1 hx
      obtain ⟨x, y, e0, e1, b0, b1⟩ := hq i (by have := List.mem_range.1 hi; omega)
      simp only [e0, e1]
      exact ⟨b0, b1⟩
end
end Go.Proofs.Ytfdmndkoiheebaa
