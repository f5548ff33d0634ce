import Derived.Test.YtfdmndkoiheebaaZ13Yard4
import Derived.Test.YtfdmndkoiheebaaZ13G2
namespace Go.Proofs.Ytfdmndkoiheebaa
open Go Go.RowKit
theorem rTakeP (w : World) {v : Value} {h b h' e : Int} {us : List Value} {xss l : List (List Int)} (hm : Mat w v us xss) (hl : xss.length < 100000) (hx : ∀ xs ∈ xss, xs.length ≤ 10) (hp : takeR xss h b = (l, h', e)) :
    Calls Try.prog 59 #[.agg #[v, .int .i64 h], .int .i64 b] w (Ret fun r w' => Ext w w' ∧ ∃ u us, r = .tuple #[.agg #[u, .int .i64 h'], .int .i64 e] ∧ MO w' u us l) := by
  have := rTake w (h := h) (b := b) hm hl hx; rw [hp] at this; exact this
section
variable {xss ys : List (List Int)} {H nx n' : Nat} {ord : List Int} {s : Int × Int × Int}
end
end Go.Proofs.Ytfdmndkoiheebaa

namespace Go.Proofs.Ytfdmndkoiheebaa
open Go Go.RowKit
def YM (w wr : World) (v : Value) (xss : List (List Int)) : Prop := (∃ us, Mat w v us xss) ∨ ∃ us, MO wr v us xss
theorem YM.ext {w wr w' : World} {v : Value} {xss : List (List Int)} (h : YM w wr v xss) (u : Ext wr w') : YM w w' v xss := by
  rcases h with h | ⟨us, h⟩
  · exact .inl h
  · exact .inr ⟨us, h.ext u⟩
theorem YM.upT {w wr w' : World} {v : Value} {xss : List (List Int)} {b : Nat} {cs : Array Value} {ty : TypeId} (h : YM w wr v xss) (u : Upd (Ytfdmndkoiheebaa.one b) wr w') (hb : Blk wr b ty cs) (hne : 35 ≠ ty ∧ 3 ≠ ty) : YM w w' v xss := by
  rcases h with h | ⟨us, h⟩
  · exact .inl h
  · exact .inr ⟨us, h.upT u hb hne⟩
theorem YM.mat {w wr : World} {v : Value} {xss : List (List Int)} (h : YM w wr v xss) (hE : Ext w wr) : ∃ us, Mat wr v us xss := by
  rcases h with ⟨us, h⟩ | ⟨us, h⟩
  · exact ⟨us, h.ext hE⟩
  · exact ⟨us, h.mat⟩
end Go.Proofs.Ytfdmndkoiheebaa
