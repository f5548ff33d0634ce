import Derived.Test.YtlplogplicgfiaaRows
import Derived.Test.YtlplogplicgfiaaZ5JY
import Derived.ChangeSlices
import Derived.Deep.SlicePairs
import Derived.Deep.Grids
import Derived.WalkKit
import Derived.ProofKit
import Derived.OpenShut
import Derived.ChangeSame
import Derived.JoinedOf
import Derived.JoinedAt
import Derived.RowKit3
import Derived.Lib.SmallJoins
import Derived.Deep.Matrix
import Derived.Deep.OwnRows
import Derived.WideKeyArgs
namespace Go.Proofs.Ytlplogplicgfiaa
open Go Go.RowKit Go.ChangeShapes Go.WideShapes Go.ChangeAt Go.Joins Go.Deep
theorem knob : ownKnob Try.prog.godebug = none := by kernel_rfl
theorem laidOut : laidOutB Try.prog = true := by kernel_rfl
theorem maxLen_eq : maxLen = 9223372036854775807 := rfl
theorem Ext.since {w w' : World} (h : Ext w w') : w.Since w.heap.size w' := ⟨h.os, h.tape, h.output, h.size, fun k hk => h.blk k hk id⟩
section
variable {H : Type} {enc : TypeId × Value → H}
theorem trodAll_stays {W W' : World} {sp' : Nat → Bool} {ts : List TypeId} {vs : List Value} {ds : List (DataW H)} {ps : List MemPlace} (hr : ∀ t ∈ ts, Try.prog.readableRec t = true ∧ t < Try.prog.types.size)
    (h : DataW.TrodAll enc Try.prog W 0 (fun _ => true) true ts vs ds ps) (hsame : ∀ p ∈ ps, W.sameAt W' p) (hs : ∀ p ∈ ps, sp' p.block = true) : DataW.TrodAll enc Try.prog W' 0 sp' true ts vs ds ps := by
  induction ts generalizing vs ds ps with
  | nil => cases vs <;> cases ds <;> simp_all [DataW.TrodAll]
  | cons t ts ih =>
    obtain ⟨v, vs', d, ds', p, q, rfl, rfl, rfl, h1, h2⟩ := trodAll_cons h
    have ht := hr t List.mem_cons_self
    refine ⟨p, q, WideElems.Trod_stays laidOut ht.1 ht.2 h1 (fun x hx => hsame x (List.mem_append_left _ hx)) (fun x hx => hs x (List.mem_append_left _ hx)), ?_, rfl⟩
    exact ih (fun x hx => hr x (List.mem_cons_of_mem _ hx)) h2 (fun x hx => hsame x (List.mem_append_right _ hx)) (fun x hx => hs x (List.mem_append_right _ hx))
theorem law_post {f : Func} {s : ChangeSpec} {W W' : World} {args : Array Value} {ds gs : List (DataW H)} {before : List MemPlace} (hv : s.vars = []) (hW : DataW.Whole enc Try.prog f.params.toList s.vars false W args.toList ds gs before)
    (hfn : s.fn H (ds ++ gs) = { results := [.lit (.bool true)], args := ds }) (hres : f.resultTypes = #[4]) (hr : ∀ t ∈ f.params.toList, Try.prog.readableRec t = true ∧ t < Try.prog.types.size) (hE : Ext W W') :
    s.post enc Try.prog f false true false false W args (.bool true) W' := by
  have hs := hE.since
  have hlt : ∀ x ∈ before, x.block < W.heap.size := fun x hx => hW.lt x hx
  have hW' := hW
  obtain ⟨p, q, hA, hV, rfl, hfz, hnd⟩ := hW
  rw [hv] at hV
  obtain ⟨rfl, rfl⟩ := trodVars_none hV
  refine ⟨ds, [], p ++ [], [], p, [], hW', ?_, ?_, ?_, hs.frame _, nofun⟩
  · rw [hfn, hres]
    exact trodAll_cons_mk (shut_bool Try.underlying4 _) trodAll_mk0
  · rw [hfn]
    exact trodAll_stays hr hA (fun x hx => hs.sameAt (hlt x (by simpa using hx))) (fun x hx => by simpa using hlt x (by simpa using hx))
  · rw [hfn, hv]
    rfl
set_option maxRecDepth 100000 in
theorem list_of_get {n : Nat} {cs : List Value} (hl : cs.length = n) (h : ∀ i, i < n → ∃ k : Nat, cs[i]? = some (.int .u8 ((k : Nat) : Int)) ∧ k < 256) : ∃ b : List Nat, b.length = n ∧ (∀ x ∈ b, x < 256) ∧ cs = u8s b := by
  obtain ⟨q, hq⟩ := choose_lt h
  refine ⟨(List.range n).map q, by simp, fun x hx => ?_, ?_⟩
  · obtain ⟨i, hi, rfl⟩ := List.mem_map.1 hx
    exact (hq i (List.mem_range.1 hi)).2
  · apply List.ext_getElem?
    intro i
    by_cases hi : i < n
    · rw [(hq i hi).1]; simp [u8s, hi]
    · rw [List.getElem?_eq_none (by omega), List.getElem?_eq_none (by simp [u8s]; omega)]
theorem open_blk {W : World} {n : Nat} {cs : List Value} {x : DataW H × List MemPlace} (h : DataW.trod enc Try.prog W 0 (fun _ => true) true n 27 cs = some x) : ∃ b, BlockP b ∧ cs = u8s b := by
  obtain ⟨xs, m, _, _, hl, hxl, hx⟩ := DataW.trod_array Try.underlying27 h
  have c27 : Try.prog.cellsOf 27 = 64 := by kernel_rfl
  have c5 : Try.prog.cellsOf 5 = 1 := by kernel_rfl
  rw [c27] at hl
  rw [c5] at hx
  obtain ⟨b, h1, h2, h3⟩ := list_of_get hl (fun i hi => by
    have h1 := hx i hi
    rw [List.getElem?_eq_getElem (by omega)] at h1
    obtain ⟨k, e, _, wk⟩ := DataW.trod_int Try.underlying5 h1
    have hk : 0 ≤ k ∧ k ≤ 255 := by simpa [Lit.wf, IntKind.min, IntKind.max, IntKind.signed, IntKind.bits] using wk
    have e1 : cs[i]? = some (.int .u8 k) := by
      have e2 := congrArg (fun l => l[0]?) e
      rw [List.getElem?_take, if_pos (by omega), List.getElem?_drop] at e2
      simpa using e2
    exact ⟨k.toNat, by rw [e1, show ((k.toNat : Nat) : Int) = k by omega], by omega⟩)
  exact ⟨b, ⟨h1, h2⟩, h3⟩
theorem open_blocks {W : World} {fuel : Nat} {v : Value} {x : DataW H × List MemPlace} (h : DataW.trod enc Try.prog W 0 (fun _ => true) true fuel 22 [v] = some x) :
    ∃ bl : List (List Nat), Row W 64 v bl.length (blocksC bl) ∧ (∀ b ∈ bl, BlockP b) ∧ bl.length ≤ 9223372036854775807 := by
  rcases open_slice Try.underlying22 h with ⟨h1, _⟩ | ⟨a, len, cap, m, n, Dd, Pl, h1, _, hl, hm, hmm, _, hc⟩
  · obtain rfl : v = .slice none 0 0 := by simpa using h1
    exact ⟨[], Row.nil _ _, by simp, by simp⟩
  · obtain rfl : v = .slice (some a) len cap := by simpa using h1
    rw [maxLen_eq] at hm
    simp only [if_true] at hmm
    subst hmm
    have ce : Try.prog.cellsOf 27 = 64 := by kernel_rfl
    obtain ⟨q, hq⟩ := choose_lt (α := List Nat) (p := fun i b => BlockP b ∧ ∀ k, k < 64 → W.cell? (a.add (i * 64 + k)) = (u8s b)[k]?) (n := m) (fun i hi => by
      obtain ⟨cs', g1, g2⟩ := hc i hi
      rw [ce] at g1
      obtain ⟨_, hlen, hcell⟩ := World.cells?_some g1
      obtain ⟨b, hb, rfl⟩ := open_blk g2
      exact ⟨b, hb, fun k hk => by rw [← hcell k hk, Deep.add_add]⟩)
    have hok : ∀ b ∈ (List.range len).map q, BlockP b := fun b hb => by
      obtain ⟨i, hi, rfl⟩ := List.mem_map.1 hb
      exact (hq i (by have := List.mem_range.1 hi; omega)).1
    have hbl := blocksC_len hok
    refine ⟨(List.range len).map q, ⟨some a, m, by simp, by simpa using hl, by rw [hbl], fun j hj => ⟨a, rfl, ?_⟩⟩, hok, by simp; omega⟩
    rw [hbl, List.length_map, List.length_range] at hj
    have hi : j / 64 < len := by omega
    have h1 := blocksC_take hok (i := j / 64) (by simpa using hi)
    have h2 := congrArg (fun l => l[j % 64]?) h1
    simp only [List.getElem?_take, List.getElem?_drop, if_pos (Nat.mod_lt j (show 0 < 64 by decide)), List.getElem_map, List.getElem_range] at h2
    rw [show j / 64 * 64 + j % 64 = j by omega] at h2
    rw [h2, ← (hq (j / 64) (by omega)).2 (j % 64) (Nat.mod_lt _ (by decide)), show j / 64 * 64 + j % 64 = j by omega]
theorem open_boolsl {W : World} {fuel : Nat} {v : Value} {x : DataW H × List MemPlace} (h : DataW.trod enc Try.prog W 0 (fun _ => true) true fuel 23 [v] = some x) :
    ∃ bs : List Bool, Row W 1 v bs.length (bools bs) ∧ bs.length ≤ 9223372036854775807 := by
  rcases open_bools Try.underlying23 Try.underlying4 (by kernel_rfl) h with ⟨h1, _⟩ | ⟨a, len, cap, B, h1, _, hl, hm, _, hc⟩
  · obtain rfl : v = .slice none 0 0 := by simpa using h1
    exact ⟨[], Row.nil _ _, by simp⟩
  · obtain rfl : v = .slice (some a) len cap := by simpa using h1
    rw [maxLen_eq] at hm
    refine ⟨(List.range len).map B, ⟨some a, cap, by simp, by simpa using hl, by simp, fun j hj => ⟨a, rfl, ?_⟩⟩, by simp; omega⟩
    simp only [bools, List.length_map, List.length_range] at hj
    rw [hc j (by omega)]; simp [hj]
set_option maxRecDepth 100000 in
theorem open_disk {W : World} {b0 : Nat} {v : Value} {d : DataW H} {p : List MemPlace} (hv : Value.okWide Try.prog W .any b0 25 v) (h : DataW.Trod enc Try.prog W 0 (fun _ => true) true 25 v d p) :
    ∃ (xb xd : Value) (dk : Dk), v = .agg #[xb, xd, .int .i64 dk.pw, .bool dk.tr] ∧ Row W 64 xb dk.bl.length (blocksC dk.bl) ∧ Row W 1 xd dk.bad.length (bools dk.bad) ∧ (∀ b ∈ dk.bl, BlockP b) ∧ dk.bl.length ≤ 9223372036854775807 ∧ dk.bad.length ≤ 9223372036854775807 ∧ dk.pw ≤ 9223372036854775807 ∧ -9223372036854775808 ≤ dk.pw := by
  obtain ⟨c0, c1, c2, c3, y0, y1, y2, y3, m, rfl, rfl, rfl, hy0, hy1, hy2, hy3⟩ := open_agg4 Try.underlying25 (by kernel_rfl) (by kernel_rfl) hv h
  obtain ⟨bl, h1, h2, h3⟩ := open_blocks hy0
  obtain ⟨bs, h4, h5⟩ := open_boolsl hy1
  obtain ⟨k, e1, _, wk⟩ := DataW.trod_int Try.underlying3 hy2
  obtain ⟨q, e2, _⟩ := DataW.trod_bool Try.underlying4 hy3
  simp at e1 e2
  subst e1 e2
  have hk : -9223372036854775808 ≤ k ∧ k ≤ 9223372036854775807 := by simpa [Lit.wf, IntKind.min, IntKind.max, IntKind.signed, IntKind.bits] using wk
  exact ⟨c0, c1, ⟨bl, bs, k, q⟩, rfl, h1, h4, h2, h3, h5, hk.2, hk.1⟩
set_option maxRecDepth 100000 in
end
end Go.Proofs.Ytlplogplicgfiaa
