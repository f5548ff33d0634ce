import Derived.Test.YtfdmndkoiheebaaZ10C3
namespace Go.Proofs.Ytfdmndkoiheebaa
open Go Go.RowKit
structure MO (w : World) (v : Value) (us : List Value) (xss : List (List Int)) : Prop where
  outer : Sl w 35 1 v xss.length us
  elems : ∀ i (h : i < xss.length), ∃ u, us[i]? = some u ∧ SInts w u xss[i]
theorem MO.mat {w : World} {v : Value} {us : List Value} {xss : List (List Int)} (h : MO w v us xss) : Mat w v us xss := ⟨h.outer.row, fun i hi => by obtain ⟨u, h1, h2⟩ := h.elems i hi; exact ⟨u, h1, h2.row⟩⟩
theorem MO.row {w : World} {v : Value} {us : List Value} {xss : List (List Int)} (h : MO w v us xss) : Row w 1 v xss.length us := h.outer.row
theorem MO.ext {w w' : World} {v : Value} {us : List Value} {xss : List (List Int)} (h : MO w v us xss) (u : Ext w w') : MO w' v us xss := ⟨h.outer.ext u, fun i hi => by obtain ⟨x, h1, h2⟩ := h.elems i hi; exact ⟨x, h1, h2.ext u⟩⟩
theorem MO.upT {w w' : World} {v : Value} {us : List Value} {xss : List (List Int)} {b : Nat} {cs : Array Value} {ty : TypeId} (h : MO w v us xss) (u : Upd (one b) w w') (hb : Blk w b ty cs) (hne : 35 ≠ ty ∧ 3 ≠ ty) : MO w' v us xss :=
  ⟨h.outer.upT u hb hne.1, fun i hi => by obtain ⟨x, h1, h2⟩ := h.elems i hi; exact ⟨x, h1, h2.upT u hb hne.2⟩⟩
theorem mo3 {w : World} {v u1 u2 u3 : Value} {a b c : List Int} (h : Sl w 35 1 v 3 [u1, u2, u3]) (h1 : SInts w u1 a) (h2 : SInts w u2 b) (h3 : SInts w u3 c) : MO w v [u1, u2, u3] [a, b, c] := by
  refine ⟨h, fun i hi => ?_⟩
  match i, hi with
  | 0, _ => exact ⟨u1, rfl, h1⟩
  | 1, _ => exact ⟨u2, rfl, h2⟩
  | 2, _ => exact ⟨u3, rfl, h3⟩
end Go.Proofs.Ytfdmndkoiheebaa
