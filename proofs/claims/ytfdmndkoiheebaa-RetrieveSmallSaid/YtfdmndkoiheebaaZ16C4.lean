import Derived.Test.YtfdmndkoiheebaaZ16C2
import Derived.Test.YtfdmndkoiheebaaZ16B4
namespace Go.Proofs.Ytfdmndkoiheebaa
open Go Go.RowKit
def YO (w w' : World) (v : Value) (h : Int) (xss : List (List Int)) : Prop :=
  (v = .slice none 0 0 ∧ h = 0 ∧ xss = []) ∨ ∃ (H ba : Nat) (us : List Value) (cur : Array Value), h = H ∧ PY w' v H ba us cur xss ∧ Fresh w v ∧ w.heap.size ≤ ba
theorem YO.mat {w w' : World} {v : Value} {h : Int} {xss : List (List Int)} (y : YO w w' v h xss) : ∃ us, Mat w' v us xss := by
  rcases y with ⟨rfl, _, rfl⟩ | ⟨H, ba, us, cur, _, hP, _⟩
  · exact ⟨[], (Sl.nil _ 35 _).row, fun i h => by simp at h⟩
  · exact ⟨us, hP.mat⟩
theorem YO.ext {w w' w'' : World} {v : Value} {h : Int} {xss : List (List Int)} (y : YO w w' v h xss) (u : Ext w' w'') : YO w w'' v h xss := by
  rcases y with y | ⟨H, ba, us, cur, hh, hP, hr⟩
  · exact .inl y
  · exact .inr ⟨H, ba, us, cur, hh, hP.ext u, hr⟩
theorem YO.mono {w0 w w' : World} {v : Value} {h : Int} {xss : List (List Int)} (y : YO w w' v h xss) (u : w0.heap.size ≤ w.heap.size) : YO w0 w' v h xss := by
  rcases y with y | ⟨H, ba, us, cur, hh, hP, hf, hb⟩
  · exact .inl y
  · exact .inr ⟨H, ba, us, cur, hh, hP, hf.mono u, Nat.le_trans u hb⟩
theorem YO.upT {w w' w'' : World} {v : Value} {h : Int} {xss : List (List Int)} {b : Nat} {cs : Array Value} {ty : TypeId} (y : YO w w' v h xss) (u : Upd (one b) w' w'') (hb : Blk w' b ty cs) (hne : 35 ≠ ty ∧ 3 ≠ ty) : YO w w'' v h xss := by
  rcases y with y | ⟨H, ba, us, cur, hh, hP, hr⟩
  · exact .inl y
  · exact .inr ⟨H, ba, us, cur, hh, hP.upT u hb hne, hr⟩
def YRes (w w' : World) (r : Value) (p : List (List Int) × Int × Int) : Prop := ∃ u, r = .tuple #[.agg #[u, .int .i64 p.2.1], .int .i64 p.2.2] ∧ YO w w' u p.2.1 p.1
theorem YRes.zero {w w' : World} {e : Int} : YRes w w' (.tuple #[.agg #[.slice none 0 0, .int .i64 0], .int .i64 e]) ([], 0, e) := ⟨_, rfl, .inl ⟨rfl, rfl, rfl⟩⟩
def shiftR (xss : List (List Int)) (h f t : Int) : List (List Int) × Int × Int :=
  if rightB xss h = false then ([], 0, 2) else if (shiftL xss h.toNat f t).2 = 0 then ((shiftL xss h.toNat f t).1, h, 0) else ([], 0, (shiftL xss h.toNat f t).2)
def takeR (xss : List (List Int)) (h b : Int) : List (List Int) × Int × Int :=
  if rightB xss h = false then ([], 0, 2) else match findL xss b with
  | none => ([], 0, 6)
  | some (i, k) => if k + 1 < (xss.getD i []).length then ([], 0, 342) else (xss.set i ((xss.getD i []).take k), h, 0)
def putR (xss : List (List Int)) (h b s : Int) : List (List Int) × Int × Int :=
  if rightB xss h = false ∨ b < 1 ∨ 999999 < b then ([], 0, 2)
  else if (findL xss b).isSome then ([], 0, 343)
  else if s < 0 ∨ (xss.length : Int) ≤ s then ([], 0, 6)
  else if ((xss.getD s.toNat []).length : Int) = h then ([], 0, 4)
  else (xss.set s.toNat (xss.getD s.toNat [] ++ [b]), h, 0)
theorem rightB_nat {xss : List (List Int)} {h : Int} (hR : rightB xss h = true) : ∃ H : Nat, h = H ∧ 1 ≤ H ∧ H ≤ 6 ∧ xss.length ≤ 30 ∧ 1 ≤ xss.length ∧ ∀ xs ∈ xss, xs.length ≤ H := by
  obtain ⟨h1, h2, h3, h4, h5, _⟩ := rightB_true.1 hR
  exact ⟨h.toNat, by omega, by omega, by omega, h4, h3, fun xs hx => by have := h5 xs hx; omega⟩
end Go.Proofs.Ytfdmndkoiheebaa

namespace Go.Proofs.Ytfdmndkoiheebaa
open Go Go.RowKit
structure MO (w : World) (v : Value) (us : List Value) (xss : List (List Int)) : Prop where
  outer : Sl w 35 1 v xss.length us
  elems : ∀ i (h : i < xss.length), ∃ u, us[i]? = some u ∧ SInts w u xss[i]
theorem MO.mat {w : World} {v : Value} {us : List Value} {xss : List (List Int)} (h : MO w v us xss) : Mat w v us xss := ⟨h.outer.row, fun i hi => by obtain ⟨u, h1, h2⟩ := h.elems i hi; exact ⟨u, h1, h2.row⟩⟩
theorem MO.row {w : World} {v : Value} {us : List Value} {xss : List (List Int)} (h : MO w v us xss) : Row w 1 v xss.length us := h.outer.row
theorem MO.ext {w w' : World} {v : Value} {us : List Value} {xss : List (List Int)} (h : MO w v us xss) (u : Ext w w') : MO w' v us xss := ⟨h.outer.ext u, fun i hi => by obtain ⟨x, h1, h2⟩ := h.elems i hi; exact ⟨x, h1, h2.ext u⟩⟩
theorem MO.upT {w w' : World} {v : Value} {us : List Value} {xss : List (List Int)} {b : Nat} {cs : Array Value} {ty : TypeId} (h : MO w v us xss) (u : Upd (one b) w w') (hb : Blk w b ty cs) (hne : 35 ≠ ty ∧ 3 ≠ ty) : MO w' v us xss :=
  ⟨h.outer.upT u hb hne.1, fun i hi => by obtain ⟨x, h1, h2⟩ := h.elems i hi; exact ⟨x, h1, h2.upT u hb hne.2⟩⟩
theorem mo3 {w : World} {v u1 u2 u3 : Value} {a b c : List Int} (h : Sl w 35 1 v 3 [u1, u2, u3]) (h1 : SInts w u1 a) (h2 : SInts w u2 b) (h3 : SInts w u3 c) : MO w v [u1, u2, u3] [a, b, c] := by
  refine ⟨h, fun i hi => ?_⟩
  match i, hi with
  | 0, _ => exact ⟨u1, rfl, h1⟩
  | 1, _ => exact ⟨u2, rfl, h2⟩
  | 2, _ => exact ⟨u3, rfl, h3⟩
end Go.Proofs.Ytfdmndkoiheebaa
