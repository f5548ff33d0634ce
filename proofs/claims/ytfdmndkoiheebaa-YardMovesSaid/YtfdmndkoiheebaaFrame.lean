/- The rows' frame: arguments opened, the law's answer shut. -/
import Derived.Test.YtfdmndkoiheebaaRows
import Derived.Test.YtfdmndkoiheebaaBase3
import Derived.WalkKit
import Derived.ProofKit
import Derived.OpenShut
import Derived.ChangeSame
import Derived.JoinedOf
import Derived.JoinedAt
import Derived.RowKit3
import Derived.Lib.SmallJoins
import Derived.Deep.Matrix
import Derived.Deep.OwnRows
import Derived.WideKeyArgs
namespace Go.Proofs.Ytfdmndkoiheebaa
open Go Go.RowKit Go.ChangeShapes Go.WideShapes Go.ChangeAt Go.Joins Go.Deep

theorem knob : ownKnob Try.prog.godebug = none := by kernel_rfl
theorem laidOut : laidOutB Try.prog = true := by kernel_rfl

theorem maxLen_eq : maxLen = 9223372036854775807 := rfl
theorem Ext.since {w w' : World} (h : Ext w w') : w.Since w.heap.size w' := ⟨h.os, h.tape, h.output, h.size, fun k hk => h.blk k hk id⟩

section
variable {H : Type} {enc : TypeId × Value → H}
theorem trodAll_stays {W W' : World} {sp' : Nat → Bool} {ts : List TypeId} {vs : List Value} {ds : List (DataW H)} {ps : List MemPlace} (hr : ∀ t ∈ ts, Try.prog.readableRec t = true ∧ t < Try.prog.types.size)
    (h : DataW.TrodAll enc Try.prog W 0 (fun _ => true) true ts vs ds ps) (hsame : ∀ p ∈ ps, W.sameAt W' p) (hs : ∀ p ∈ ps, sp' p.block = true) : DataW.TrodAll enc Try.prog W' 0 sp' true ts vs ds ps := by
  induction ts generalizing vs ds ps with
  | nil => cases vs <;> cases ds <;> simp_all [DataW.TrodAll]
  | cons t ts ih =>
    obtain ⟨v, vs', d, ds', p, q, rfl, rfl, rfl, h1, h2⟩ := trodAll_cons h
    have ht := hr t List.mem_cons_self
    refine ⟨p, q, WideElems.Trod_stays laidOut ht.1 ht.2 h1 (fun x hx => hsame x (List.mem_append_left _ hx)) (fun x hx => hs x (List.mem_append_left _ hx)), ?_, rfl⟩
    exact ih (fun x hx => hr x (List.mem_cons_of_mem _ hx)) h2 (fun x hx => hsame x (List.mem_append_right _ hx)) (fun x hx => hs x (List.mem_append_right _ hx))

/-- A law without package variables has answered true, and nothing that was there is written. -/
theorem law_post {f : Func} {s : ChangeSpec} {W W' : World} {args : Array Value} {ds gs : List (DataW H)} {before : List MemPlace} (hv : s.vars = []) (hW : DataW.Whole enc Try.prog f.params.toList s.vars false W args.toList ds gs before)
    (hfn : s.fn H (ds ++ gs) = { results := [.lit (.bool true)], args := ds }) (hres : f.resultTypes = #[4]) (hr : ∀ t ∈ f.params.toList, Try.prog.readableRec t = true ∧ t < Try.prog.types.size) (hE : Ext W W') :
    s.post enc Try.prog f false true false false W args (.bool true) W' := by
  have hs := hE.since
  have hlt : ∀ x ∈ before, x.block < W.heap.size := fun x hx => hW.lt x hx
  have hW' := hW
  obtain ⟨p, q, hA, hV, rfl, hfz, hnd⟩ := hW
  rw [hv] at hV
  obtain ⟨rfl, rfl⟩ := trodVars_none hV
  refine ⟨ds, [], p ++ [], [], p, [], hW', ?_, ?_, ?_, hs.frame _, nofun⟩
  · rw [hfn, hres]
    exact trodAll_cons_mk (shut_bool Try.underlying4 _) trodAll_mk0
  · rw [hfn]
    exact trodAll_stays hr hA (fun x hx => hs.sameAt (hlt x (by simpa using hx))) (fun x hx => by simpa using hlt x (by simpa using hx))
  · rw [hfn, hv]
    rfl

/-- Stacks that came in. -/
theorem open_mat {W : World} {fuel : Nat} {v : Value} {x : DataW H × List MemPlace} (h : DataW.trod enc Try.prog W 0 (fun _ => true) true fuel 22 [v] = some x) :
    ∃ us xss, Mat W v us xss ∧ xss.length ≤ 9223372036854775807 ∧ (∀ xs ∈ xss, xs.length ≤ 9223372036854775807) ∧ ∀ xs ∈ xss, ∀ n ∈ xs, -9223372036854775808 ≤ n ∧ n ≤ 9223372036854775807 := by
  rcases open_int_rows Try.underlying22 Try.underlying35 Try.underlying3 (by kernel_rfl) (by kernel_rfl) h with ⟨hcs0, hx⟩ | ⟨a, len, cap, A, L, C, Z, hcs0, _, hl, hm, hx, hrows⟩
  · obtain rfl : v = .slice none 0 0 := by simpa using hcs0
    exact ⟨[], [], ⟨(Sl.nil _ 35 _).row, fun i h => by simp at h⟩, by simp, by simp, by simp⟩
  · obtain rfl : v = .slice (some a) len cap := by simpa using hcs0
    rw [maxLen_eq] at hm
    have hz : ∀ r, r < len → ((Z r).take (L r)).length = L r := fun r hr => by
      obtain ⟨_, h1, _, h2, _⟩ := hrows r (by omega)
      rw [List.length_take]; omega
    refine ⟨(List.range len).map fun r => .slice (A r) (L r) (C r), (List.range len).map fun r => (Z r).take (L r), ⟨⟨some a, cap, by simp, by simpa using hl, by simp, fun j hj => ⟨a, rfl, ?_⟩⟩, fun i hi => ?_⟩, by simp; omega, ?_, ?_⟩
    · simp only [List.length_map, List.length_range] at hj
      rw [(hrows j (by omega)).1]
      simp [hj]
    · simp only [List.length_map, List.length_range] at hi
      obtain ⟨_, h1, _, h2, h3, h4, h5⟩ := hrows i (by omega)
      refine ⟨.slice (A i) (L i) (C i), by simp [hi], ?_⟩
      simp only [List.getElem_map, List.getElem_range]
      refine ⟨A i, C i, by rw [hz i hi], by rw [hz i hi]; exact h1, by simp, fun j hj => ?_⟩
      simp only [ints, List.length_map, hz i hi] at hj
      cases hA : A i with
      | none => have := h4 hA; omega
      | some a' =>
        refine ⟨a', rfl, ?_⟩
        rw [(h5 a' hA).2 j (by omega)]
        have hj2 : j < (Z i).length := by omega
        simp [ints, hj, hj2]
    · intro xs hxs
      obtain ⟨r, hr, rfl⟩ := List.mem_map.1 hxs
      have hr := List.mem_range.1 hr
      obtain ⟨_, h1, h2, _⟩ := hrows r (by omega)
      rw [maxLen_eq] at h2
      rw [hz r hr]; omega
    · intro xs hxs n hn
      obtain ⟨r, hr, rfl⟩ := List.mem_map.1 hxs
      have hr := List.mem_range.1 hr
      have := (hrows r (by omega)).2.2.2.2.1 n (List.mem_of_mem_take hn)
      simpa [Lit.wf, IntKind.min, IntKind.max, IntKind.signed, IntKind.bits] using this

set_option maxRecDepth 100000 in
/-- A yard that came in. -/
theorem open_yard {W : World} {b0 : Nat} {v : Value} {d : DataW H} {p : List MemPlace} (hv : Value.okWide Try.prog W .any b0 24 v) (h : DataW.Trod enc Try.prog W 0 (fun _ => true) true 24 v d p) :
    ∃ u k us xss, v = .agg #[u, .int .i64 k] ∧ Mat W u us xss ∧ xss.length ≤ 9223372036854775807 ∧ (∀ xs ∈ xss, xs.length ≤ 9223372036854775807) ∧ (∀ xs ∈ xss, ∀ n ∈ xs, -9223372036854775808 ≤ n ∧ n ≤ 9223372036854775807) ∧ -9223372036854775808 ≤ k ∧ k ≤ 9223372036854775807 := by
  obtain ⟨c0, c1, y0, y1, m, rfl, rfl, rfl, hy0, hy1⟩ := open_agg2 Try.underlying24 (by kernel_rfl) (by kernel_rfl) hv h
  obtain ⟨k, e1, rfl, wk⟩ := DataW.trod_int Try.underlying3 hy1
  obtain ⟨us, xss, hm, h1, h2, h3⟩ := open_mat hy0
  simp at e1
  subst e1
  have hk : -9223372036854775808 ≤ k ∧ k ≤ 9223372036854775807 := by simpa [Lit.wf, IntKind.min, IntKind.max, IntKind.signed, IntKind.bits] using wk
  exact ⟨c0, k, us, xss, rfl, hm, h1, h2, h3, hk⟩
set_option maxRecDepth 100000 in
/-- An integer that came in. -/
theorem open_int3 {W : World} {b0 : Nat} {v : Value} {d : DataW H} {p : List MemPlace} (hv : Value.okWide Try.prog W .any b0 3 v) (h : DataW.Trod enc Try.prog W 0 (fun _ => true) true 3 v d p) :
    ∃ k, v = .int .i64 k ∧ -9223372036854775808 ≤ k ∧ k ≤ 9223372036854775807 := by
  obtain ⟨k, rfl, rfl, rfl, wk⟩ := open_int Try.underlying3 hv h
  have hk : -9223372036854775808 ≤ k ∧ k ≤ 9223372036854775807 := by simpa [Lit.wf, IntKind.min, IntKind.max, IntKind.signed, IntKind.bits] using wk
  exact ⟨k, rfl, hk⟩
end
end Go.Proofs.Ytfdmndkoiheebaa
