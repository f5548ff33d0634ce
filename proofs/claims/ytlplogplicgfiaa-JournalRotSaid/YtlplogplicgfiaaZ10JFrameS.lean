import Derived.Test.YtlplogplicgfiaaZ10KE
import Derived.Test.YtlplogplicgfiaaZ10KN
namespace Go.Proofs.Ytlplogplicgfiaa
open Go Go.RowKit Go.ChangeShapes Go.WideShapes Go.ChangeAt Go.Joins Go.Deep
section
variable {H : Type} {enc : TypeId × Value → H}
instance : Inhabited Stp := ⟨Stp0⟩
set_option maxRecDepth 100000 in
theorem open_steps {W : World} {b0 : Nat} {v : Value} {d : DataW H} {p : List MemPlace} (hv : Value.okWide Try.prog W .any b0 59 v) (h : DataW.Trod enc Try.prog W 0 (fun _ => true) true 59 v d p) :
    ∃ ss : List Stp, Row W 5 v ss.length (stpsC ss) ∧ (∀ x ∈ ss, okS x) ∧ ss.length ≤ 9223372036854775807 := by
  obtain ⟨a0, len0, cap0, rfl⟩ := okWide_slice Try.underlying59 hv
  obtain ⟨fuel, hf⟩ := h
  rcases open_slice Try.underlying59 hf with ⟨h1, _⟩ | ⟨a, len, cap, m, n, Dd, Pl, h1, _, hl, hm, hmm, _, hc⟩
  · simp [Value.cells] at h1
    obtain ⟨rfl, rfl, rfl⟩ := h1
    exact ⟨[], Row.nil _ _, by simp, by simp⟩
  · simp [Value.cells] at h1
    obtain ⟨rfl, rfl, rfl⟩ := h1
    rw [maxLen_eq] at hm
    simp only [if_true] at hmm
    subst hmm
    have ce : Try.prog.cellsOf 65 = 5 := by kernel_rfl
    have each : ∀ i, i < m → ∃ s : Stp, okS s ∧ ∀ k, k < 5 → W.cell? (a.add (i * 5 + k)) = (stpC s)[k]? := fun i hi => by
      obtain ⟨cs', g1, g2⟩ := hc i hi
      rw [ce] at g1
      obtain ⟨_, hlen, hcell⟩ := World.cells?_some g1
      obtain ⟨xs, k, hk, hxy, _, hxl, hfx⟩ := DataW.trod_struct Try.underlying65 g2
      have c5 : Try.prog.cellsOf 5 = 1 := by kernel_rfl
      have c63 : Try.prog.cellsOf 63 = 1 := by kernel_rfl
      match xs, hxl, cs', hlen with
      | [y0, y1, y2, y3, y4], _, [v0, v1, v2, v3, v4], _ =>
        have k0 := hfx 0 _ rfl
        have k1 := hfx 1 _ rfl
        have k2 := hfx 2 _ rfl
        have k3 := hfx 3 _ rfl
        have k4 := hfx 4 _ rfl
        simp [c5, c63] at k0 k1 k2 k3 k4
        obtain ⟨x0, e0, _, w0⟩ := DataW.trod_int Try.underlying5 k0
        obtain ⟨x1, e1, _, w1⟩ := DataW.trod_int Try.underlying5 k1
        obtain ⟨x2, e2, _, w2⟩ := DataW.trod_int Try.underlying5 k2
        obtain ⟨x3, e3, _, w3⟩ := DataW.trod_int Try.underlying5 k3
        obtain ⟨x4, e4, _, w4⟩ := DataW.trod_int Try.underlying63 k4
        simp at e0 e1 e2 e3 e4
        replace w0 : 0 ≤ x0 ∧ x0 ≤ 255 := by simpa [Lit.wf, IntKind.min, IntKind.max, IntKind.signed, IntKind.bits] using w0
        replace w1 : 0 ≤ x1 ∧ x1 ≤ 255 := by simpa [Lit.wf, IntKind.min, IntKind.max, IntKind.signed, IntKind.bits] using w1
        replace w2 : 0 ≤ x2 ∧ x2 ≤ 255 := by simpa [Lit.wf, IntKind.min, IntKind.max, IntKind.signed, IntKind.bits] using w2
        replace w3 : 0 ≤ x3 ∧ x3 ≤ 255 := by simpa [Lit.wf, IntKind.min, IntKind.max, IntKind.signed, IntKind.bits] using w3
        replace w4 : 0 ≤ x4 ∧ x4 ≤ 65535 := by simpa [Lit.wf, IntKind.min, IntKind.max, IntKind.signed, IntKind.bits] using w4
        obtain ⟨z0, rfl⟩ : ∃ z : Nat, x0 = (z : Int) := ⟨x0.toNat, by omega⟩
        obtain ⟨z1, rfl⟩ : ∃ z : Nat, x1 = (z : Int) := ⟨x1.toNat, by omega⟩
        obtain ⟨z2, rfl⟩ : ∃ z : Nat, x2 = (z : Int) := ⟨x2.toNat, by omega⟩
        obtain ⟨z3, rfl⟩ : ∃ z : Nat, x3 = (z : Int) := ⟨x3.toNat, by omega⟩
        obtain ⟨z4, rfl⟩ : ∃ z : Nat, x4 = (z : Int) := ⟨x4.toNat, by omega⟩
        subst e0 e1 e2 e3 e4
        refine ⟨⟨z0, z1, z2, z3, z4⟩, ⟨by show z0 < 256; omega, by show z1 < 256; omega, by show z2 < 256; omega, by show z3 < 256; omega, by show z4 < 65536; omega⟩, fun k hk => ?_⟩
        rw [← Deep.add_add, hcell k (by omega)]
        rfl
    obtain ⟨q, hq⟩ := choose_lt each
    refine ⟨(List.range len0).map q, ⟨some a, m, by simp, by simpa using hl, by rw [stpsC_len], fun j hj => ⟨a, rfl, ?_⟩⟩, fun x hx => ?_, by simp; omega⟩
    · rw [stpsC_len, List.length_map, List.length_range] at hj
      have hi : j / 5 < len0 := by omega
      have h1 := stps_at (l := (List.range len0).map q) (i := j / 5) (by simpa using hi)
      have h2 := congrArg (fun l => l[j % 5]?) h1
      simp only [List.getElem?_take, List.getElem?_drop, if_pos (Nat.mod_lt j (show 0 < 5 by decide))] at h2
      rw [show j / 5 * 5 + j % 5 = j by omega] at h2
      rw [h2, show ((List.range len0).map q).getD (j / 5) Stp0 = q (j / 5) by simp [hi], ← (hq (j / 5) (by omega)).2 (j % 5) (Nat.mod_lt _ (by decide)), show j / 5 * 5 + j % 5 = j by omega]
    · obtain ⟨i, hi, rfl⟩ := List.mem_map.1 hx
      exact (hq i (by have := List.mem_range.1 hi; omega)).1
end
end Go.Proofs.Ytlplogplicgfiaa
