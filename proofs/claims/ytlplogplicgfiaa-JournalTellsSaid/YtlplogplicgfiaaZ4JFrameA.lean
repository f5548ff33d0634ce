import Derived.Test.YtlplogplicgfiaaZ4JFrame
import Derived.Test.YtlplogplicgfiaaZ4QT
namespace Go.Proofs.Ytlplogplicgfiaa
open Go Go.RowKit Go.ChangeShapes Go.WideShapes Go.ChangeAt Go.Joins Go.Deep
section
variable {H : Type} {enc : TypeId × Value → H}
instance : Inhabited (Act × Value) := ⟨(Act0, .bool false)⟩
theorem open_bytes {W : World} {fuel : Nat} {v : Value} {x : DataW H × List MemPlace} (hf : DataW.trod enc Try.prog W 0 (fun _ => true) true fuel 55 [v] = some x) :
    ∃ ls : List Nat, U8s W v ls ∧ ls.length ≤ 9223372036854775807 ∧ ∀ x ∈ ls, x < 256 := by
  rcases open_ints Try.underlying55 Try.underlying5 (by kernel_rfl) hf with ⟨h1, _⟩ | ⟨a, len, cap, zs, h1, _, hl, hm, hz, _, hc, hw⟩
  · obtain rfl : v = .slice none 0 0 := by simpa using h1
    exact ⟨[], Row.nil _ _, by simp, by simp⟩
  · obtain rfl : v = .slice (some a) len cap := by simpa using h1
    rw [maxLen_eq] at hm; simp only [if_true] at hz; have hwf : ∀ n ∈ zs, 0 ≤ n ∧ n ≤ 255 := fun n hn => by have := hw n hn; simpa [Lit.wf, IntKind.min, IntKind.max, IntKind.signed, IntKind.bits] using this
    have hlen : ((zs.take len).map Int.toNat).length = len := by simp; omega
    refine ⟨(zs.take len).map Int.toNat, ⟨some a, cap, by rw [hlen], by rw [hlen]; exact hl, by simp, fun j hj => ⟨a, rfl, ?_⟩⟩, by rw [hlen]; omega, fun x hx => ?_⟩
    · simp only [u8s, List.length_map] at hj; rw [List.length_take] at hj; rw [hc j (by omega)]; have hj2 : j < zs.length := by omega
      have h3 := hwf zs[j] (List.getElem_mem hj2); have hj3 : j < len := by omega
      simp [hj2, hj3]; omega
    · obtain ⟨n, hn, rfl⟩ := List.mem_map.1 hx; have := hwf n (List.mem_of_mem_take hn); omega
set_option maxRecDepth 100000 in
theorem open_acts {W : World} {b0 : Nat} {v : Value} {d : DataW H} {p : List MemPlace} (hv : Value.okWide Try.prog W .any b0 43 v) (h : DataW.Trod enc Try.prog W 0 (fun _ => true) true 43 v d p) :
    ∃ (l : List Act) (us : List Value), ActI W v us l ∧ l.length ≤ 9223372036854775807 := by
  obtain ⟨a0, len0, cap0, rfl⟩ := okWide_slice Try.underlying43 hv; obtain ⟨fuel, hf⟩ := h; rcases open_slice Try.underlying43 hf with ⟨h1, _⟩ | ⟨a, len, cap, m, n, Dd, Pl, h1, _, hl, hm, hmm, _, hc⟩
  · simp [Value.cells] at h1; obtain ⟨rfl, rfl, rfl⟩ := h1; exact ⟨[], [], ⟨Row.nil _ _, rfl, fun i hi => absurd hi (Nat.not_lt_zero i), fun i hi => absurd hi (Nat.not_lt_zero i)⟩, by simp⟩
  · simp [Value.cells] at h1; obtain ⟨rfl, rfl, rfl⟩ := h1; rw [maxLen_eq] at hm; simp only [if_true] at hmm; subst hmm; have ce : Try.prog.cellsOf 58 = 4 := by kernel_rfl
    have each : ∀ i, i < m → ∃ s : Act × Value, okA3 s.1 ∧ U8s W s.2 s.1.dat ∧ ∀ k, k < 4 → W.cell? (a.add (i * 4 + k)) = (actC s.1 s.2)[k]? := fun i hi => by
      obtain ⟨cs', g1, g2⟩ := hc i hi; rw [ce] at g1; obtain ⟨_, hlen, hcell⟩ := World.cells?_some g1; obtain ⟨xs, k, hk, hxy, _, hxl, hfx⟩ := DataW.trod_struct Try.underlying58 g2; have c5 : Try.prog.cellsOf 5 = 1 := by kernel_rfl
      have c3 : Try.prog.cellsOf 3 = 1 := by kernel_rfl
      have c55 : Try.prog.cellsOf 55 = 1 := by kernel_rfl
      match xs, hxl, cs', hlen with
      | [y0, y1, y2, y3], _, [v0, v1, v2, v3], _ =>
        have k0 := hfx 0 _ rfl; have k1 := hfx 1 _ rfl; have k2 := hfx 2 _ rfl; have k3 := hfx 3 _ rfl; simp [c5, c3, c55] at k0 k1 k2 k3; obtain ⟨x0, e0, _, w0⟩ := DataW.trod_int Try.underlying5 k0; obtain ⟨x1, e1, _, w1⟩ := DataW.trod_int Try.underlying3 k1; obtain ⟨x2, e2, _, w2⟩ := DataW.trod_int Try.underlying3 k2; obtain ⟨bs, hb1, hb2, hb3⟩ := open_bytes k3; simp at e0 e1 e2; replace w0 : 0 ≤ x0 ∧ x0 ≤ 255 := by simpa [Lit.wf, IntKind.min, IntKind.max, IntKind.signed, IntKind.bits] using w0
        replace w1 : -9223372036854775808 ≤ x1 ∧ x1 ≤ 9223372036854775807 := by simpa [Lit.wf, IntKind.min, IntKind.max, IntKind.signed, IntKind.bits] using w1
        replace w2 : -9223372036854775808 ≤ x2 ∧ x2 ≤ 9223372036854775807 := by simpa [Lit.wf, IntKind.min, IntKind.max, IntKind.signed, IntKind.bits] using w2
        obtain ⟨z0, rfl⟩ : ∃ z : Nat, x0 = (z : Int) := ⟨x0.toNat, by omega⟩; subst e0 e1 e2; refine ⟨(⟨z0, x1, x2, bs⟩, v3), ⟨by show z0 < 256; omega, w1.1, w1.2, w2.1, w2.2, hb3, hb2⟩, hb1, fun k hk => ?_⟩; rw [← Deep.add_add, hcell k (by omega)]
    obtain ⟨q, hq⟩ := choose_lt each; have ea : ∀ i, i < len0 → ((List.range len0).map (fun i => (q i).1)).getD i Act0 = (q i).1 := fun i hi => by simp [hi]
    have eu : ∀ i, i < len0 → ((List.range len0).map (fun i => (q i).2)).getD i undef = (q i).2 := fun i hi => by simp [hi]
    have el : ((List.range len0).map (fun i => (q i).2)).length = ((List.range len0).map (fun i => (q i).1)).length := by simp
    have e1 : ((List.range len0).map (fun i => (q i).1)).length = len0 := by simp
    refine ⟨(List.range len0).map (fun i => (q i).1), (List.range len0).map (fun i => (q i).2), ⟨⟨some a, m, by simp, by simpa using hl, by rw [actsC_len el], fun j hj => ⟨a, rfl, ?_⟩⟩, el, fun i hi => ?_, fun i hi => ?_⟩, by rw [e1]; omega⟩
    · rw [actsC_len el, e1] at hj; have hi : j / 4 < len0 := by omega
      have h1 := acts_take el (i := j / 4) (by rw [e1]; exact hi); rw [ea _ hi, eu _ hi] at h1; have h2 := congrArg (fun l => l[j % 4]?) h1; simp only [List.getElem?_take, List.getElem?_drop, if_pos (Nat.mod_lt j (show 0 < 4 by decide))] at h2; rw [show j / 4 * 4 + j % 4 = j by omega] at h2; rw [h2, ← (hq (j / 4) (by omega)).2.2 (j % 4) (Nat.mod_lt _ (by decide)), show j / 4 * 4 + j % 4 = j by omega]
    · rw [e1] at hi; rw [ea _ hi, eu _ hi]; exact (hq i (by omega)).2.1
    · rw [e1] at hi; rw [ea _ hi]; exact (hq i (by omega)).1
end
end Go.Proofs.Ytlplogplicgfiaa
