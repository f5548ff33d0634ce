import Derived.Test.YtfdmndkoiheebaaZ10J13
import Derived.Test.YtfdmndkoiheebaaZ10Yard
namespace Go.Proofs.Ytfdmndkoiheebaa
open Go Go.RowKit
theorem YM.upS {w wr w' : World} {v x : Value} {xss : List (List Int)} {ty' : TypeId} {k' m : Nat} {ds : List Value} (h : YM w wr v xss) (u : Upd (fun b => vblk x = some b) wr w') (hx : Sl wr ty' k' x m ds) (hne : 35 ≠ ty' ∧ 3 ≠ ty') : YM w w' v xss := by
  rcases h with h | ⟨us, h⟩
  · exact .inl h
  · exact .inr ⟨us, h.upS u hx hne⟩
structure OverJ (ys : List (List Int)) (H : Nat) (ord : List Int) (nx a k : Nat) (ov : List Int) : Prop where
  good : GoodJ ys H ord nx
  ln : nx < ord.length
  la : a < ys.length
  lk : k < ys[a].length
  box : ys[a][k] = ord[nx]
  find : findL ys ord[nx] = some (a, k)
  over : (ys[a].drop (k + 1)).reverse = ov
section
variable {ys : List (List Int)} {H : Nat} {ord : List Int} {nx a k : Nat} {ov : List Int} {b : Int}
theorem OverJ.len (h : OverJ ys H ord nx a k ov) : ov.length + (k + 1) = (ys[a]'h.la).length := by
  have h1 := congrArg List.length h.over
  have h2 := h.lk
  simp at h1; omega
theorem OverJ.top (h : OverJ ys H ord nx a k (b :: ov)) : topL ys (a : Nat) = b := by
  have hl := h.len
  simp at hl
  have ha := h.la
  rw [topL_at ha (by omega)]
  have h1 := congrArg (fun l => l.head?) h.over
  simp only [List.head?_reverse, List.head?_cons, List.getLast?_drop] at h1
  rw [if_neg (by omega), List.getLast?_eq_getElem?, List.getElem?_eq_getElem (by omega)] at h1
  exact Option.some.inj h1
theorem OverJ.ne (h : OverJ ys H ord nx a k (b :: ov)) : topL ys (a : Nat) ≠ ord[nx]'h.ln := fun e => by
  have hl := h.len
  have ha := h.la
  simp at hl
  rw [topL_at ha (by omega), ← h.box] at e
  have := (h.good.right.inj ha (show ys[a].length - 1 < ys[a].length by omega) ha h.lk e).2
  omega
theorem OverJ.next (h : OverJ ys H ord nx a k (b :: ov)) {j : Nat} (hj : j < ys.length) (hja : j ≠ a) (hjH : ys[j].length ≠ H) : OverJ (shiftL ys H a j).1 H ord nx a k ov ∧ (shiftL ys H a j).2 = 0 ∧ doL ys H ord nx (b, ((a : Nat) : Int), (j : Nat)) = some ((shiftL ys H a j).1, nx) := by
  have hl := h.len
  have ha := h.la
  simp at hl
  obtain ⟨hs, hd⟩ := doL_shift (ord := ord) (nx := nx) h.good.right ha (by omega) hj hja hjH
  have ht := h.top
  rw [topL_at ha (by omega)] at ht
  rw [ht] at hd
  obtain ⟨hG, hF, _⟩ := h.good.reloc ha h.lk (by omega) hj hja hjH
  rw [h.box] at hF
  have hlen : (shiftL ys H a j).1.length = ys.length := shiftL_len
  obtain ⟨a', b', ha', hb', hl', e1, e2, hab, hn, he⟩ := shiftL_ok hs
  obtain rfl : a = a' := by omega
  have hrow : (shiftL ys H a j).1[a]'(by omega) = ys[a].dropLast := by simp only [he]; rw [List.getElem_set_self]
  refine ⟨⟨hG, h.ln, by omega, by rw [hrow]; simp; omega, by simp only [hrow]; rw [List.getElem_dropLast]; exact h.box, hF, ?_⟩, hs, hd⟩
  rw [hrow]
  have h1 := h.over
  have h2 : (ys[a].dropLast).drop (k + 1) = (ys[a].drop (k + 1)).dropLast := by
    rw [List.dropLast_eq_take, List.dropLast_eq_take, List.drop_take, List.length_drop]; congr 1; omega
  rw [h2]
  have h3 := congrArg List.tail h1
  rw [List.tail_reverse] at h3
  exact h3
theorem OverJ.leave (h : OverJ ys H ord nx a k []) : topL ys (a : Nat) = ord[nx]'h.ln ∧ doL ys H ord nx (ord[nx]'h.ln, ((a : Nat) : Int), -1) = some (ys.set a ((ys[a]'h.la).take k), nx + 1) ∧ GoodJ (ys.set a ((ys[a]'h.la).take k)) H ord (nx + 1) ∧ takeR ys H (ord[nx]'h.ln) = (ys.set a ((ys[a]'h.la).take k), (H : Int), 0) := by
  have hl := h.len
  have ha := h.la
  simp at hl
  obtain ⟨q1, q2⟩ := h.good.leave h.ln ha h.lk h.box (by omega)
  have hd : ys[a].dropLast = ys[a].take k := by rw [List.dropLast_eq_take]; congr 1; omega
  rw [hd] at q1 q2
  refine ⟨?_, q1, q2, ?_⟩
  · rw [topL_at ha (by omega), ← h.box]; congr 1; omega
  · have := h.good.right.take_top ha h.lk (by omega)
    rw [h.box] at this
    exact this
theorem OverJ.start {nx : Nat} (h : GoodJ ys H ord nx) (hn : nx < ord.length) : ∃ (a k : Nat) (ov : List Int), OverJ ys H ord nx a k ov ∧ aboveL ys H ord[nx] = (ov, 0) ∧ findV ys ord[nx] = .tuple #[.int .i64 (a : Nat), .int .i64 (k : Nat), .bool true] := by
  obtain ⟨a, k, ha, hk, hak, hF⟩ := h.at hn
  refine ⟨a, k, (ys[a].drop (k + 1)).reverse, ⟨h, hn, ha, hk, hak, hF, rfl⟩, ?_, ?_⟩
  · simp [aboveL, h.right.b, hF, ha]
  · simp [findV, hF]
end
end Go.Proofs.Ytfdmndkoiheebaa

namespace Go.Proofs.Ytfdmndkoiheebaa
open Go Go.RowKit
theorem Lent.upT {w w' : World} {v : Value} {xs : List Int} {b : Nat} {ty : TypeId} {cs : Array Value} (h : Lent w v xs) (u : Upd (Ytfdmndkoiheebaa.one b) w w') (hb : Blk w b ty cs) (hne : 3 ≠ ty) : Lent w' v xs := by
  obtain ⟨v0, h, e⟩ := h; exact ⟨v0, h.upT u hb hne, e⟩
end Go.Proofs.Ytfdmndkoiheebaa
